/-
  The laws NttLines, NttThere.
-/
import Derived.Test.YtjmhnmlmnlefaaaNttW
namespace Go.Proofs.Ytjmhnmlmnlefaaa
open Go.RowKit Go.Lib
attribute [local irreducible] World.setCell
set_option linter.unusedSimpArgs false
set_option linter.unusedVariables false


theorem rd_wd {w : World} {v : Value} {n : Nat} {X : Nat → Nat} {x : Nat → F} (h : Rd w v n (fun i => wn (X i))) (e : ∀ i, i < n → X i = (x i).val) : Rd w v n (fun i => wd (x i)) := h.congr fun i hi => by rw [e i hi]
/-- What the four transforms answer to a list that is none. -/
structure BadL (v : Value) (c : Int) (W : World) : Prop where
  line : Calls Try.prog 23 #[v] W fun e w' => e = .returned (.tuple #[.slice none 0 0, .int .i64 c]) ∧ W = w'
  unline : Calls Try.prog 29 #[v] W fun e w' => e = .returned (.tuple #[.slice none 0 0, .int .i64 c]) ∧ W = w'
  dline : Calls Try.prog 27 #[v] W fun e w' => e = .returned (.tuple #[.slice none 0 0, .int .i64 c]) ∧ W = w'
  dunline : Calls Try.prog 30 #[v] W fun e w' => e = .returned (.tuple #[.slice none 0 0, .int .i64 c]) ∧ W = w'
theorem first_bad (n : Nat) (X : Nat → Nat) : (∀ i, i < n → X i < 18446744069414584321) ∨ ∃ m, m < n ∧ (∀ i, i < m → X i < 18446744069414584321) ∧ 18446744069414584321 ≤ X m := by
  induction n with
  | zero => exact .inl fun i h => absurd h (Nat.not_lt_zero _)
  | succ n ih =>
    rcases ih with h | ⟨m, hm, h⟩
    · rcases Nat.lt_or_ge (X n) 18446744069414584321 with q | q
      · refine .inl fun i hi => ?_
        rcases Nat.lt_or_ge i n with z | z
        · exact h i z
        · rw [show i = n by omega]; exact q
      · exact .inr ⟨n, by omega, h, q⟩
    · exact .inr ⟨m, by omega, h⟩
theorem line_cases {w : World} {v : Value} {n : Nat} {X : Nat → Nat} (h : Rd w v n (fun i => wn (X i))) :
    (∃ c, (c = 1 ∨ c = 3) ∧ ∀ W, Below w.heap.size w W → BadL v c W) ∨ (rightB n = true ∧ ∃ x : Nat → F, Rd w v n (fun i => wd (x i))) := by
  cases hr : rightB n
  · obtain ⟨a, cap, rfl, _⟩ := h
    exact .inl ⟨1, .inl rfl, fun W _ => ⟨Line_arg a n cap W hr, Unline_arg a n cap W hr, DocLine_arg a n cap W hr, DocUnline_arg a n cap W hr⟩⟩
  · rcases first_bad n X with q | ⟨m, hm, hlo, hbad⟩
    · refine .inr ⟨rfl, fun i => Fin.ofNat PP (X i), rd_wd h fun i hi => ?_⟩
      show X i = X i % 18446744069414584321
      rw [Nat.mod_eq_of_lt (q i hi)]
    · have hw := h
      obtain ⟨a, cap, rfl, h⟩ := h
      obtain ⟨b, off, rfl, hl, hc⟩ := h (by omega)
      refine .inl ⟨3, .inr rfl, fun W hb => ?_⟩
      have hc' : ∀ i, i < n → W.cell? ⟨b, off + i, none⟩ = some (wn (X i)) := fun i hi => (hb.cell (p := ⟨b, off + i, none⟩) hl).trans (hc i hi)
      exact ⟨Line_form b off n cap m X W hr hm hc' hlo hbad, Unline_form b off n cap m X W hr hm hc' hlo hbad, DocLine_form b off n cap m X W hr hm hc' hlo hbad, DocUnline_form b off n cap m X W hr hm hc' hlo hbad⟩
/-- .. and to a list that is one. -/
structure GoodL (v : Value) (n : Nat) (x : Nat → F) (W : World) : Prop where
  line : Calls Try.prog 23 #[v] W fun e w' => (∃ r, e = .returned (.tuple #[r, .int .i64 0]) ∧ Made w' W.heap.size r n (dft n (rt n) x)) ∧ Below W.heap.size W w'
  unline : Calls Try.prog 29 #[v] W fun e w' => (∃ r, e = .returned (.tuple #[r, .int .i64 0]) ∧ Made w' W.heap.size r n (idft n x)) ∧ Below W.heap.size W w'
  dline : Calls Try.prog 27 #[v] W fun e w' => (∃ r, e = .returned (.tuple #[r, .int .i64 0]) ∧ Made w' W.heap.size r n (dft n (rt n) x)) ∧ Below W.heap.size W w'
  dunline : Calls Try.prog 30 #[v] W fun e w' => (∃ r, e = .returned (.tuple #[r, .int .i64 0]) ∧ Made w' W.heap.size r n (idft n x)) ∧ Below W.heap.size W w'
theorem good_line {w : World} {v : Value} {n : Nat} {x : Nat → F} (hr : rightB n = true) (h : Rd w v n (fun i => wd (x i))) : GoodL v n x w := by
  obtain ⟨h0, hd, hn⟩ := right_le hr
  obtain ⟨a, cap, rfl, h⟩ := h
  obtain ⟨b, off, rfl, hl, hc⟩ := h h0
  have hx : Wds w b off n x := hc
  have hm : n ≤ maxLen := by unfold maxLen; omega
  exact ⟨(Line_ok b off n cap x w hr hl hx).mono fun e w' ⟨⟨g, e1, e2, e3⟩, hb⟩ => ⟨⟨_, e1, made_row e3 e2 hm⟩, hb⟩,
    (Unline_ok b off n cap x w hr hl hx).mono fun e w' ⟨⟨g, e1, e2, e3⟩, hb⟩ => ⟨⟨_, e1, made_row e3 e2 hm⟩, hb⟩,
    DocLine_ok b off n cap x w hr hl hx, DocUnline_ok b off n cap x w hr hl hx⟩
set_option maxHeartbeats 2000000 in
theorem lines_bad (v : Value) (c : Int) (w : World) (hc : c = 1 ∨ c = 3) (H : ∀ W, Below w.heap.size w W → BadL v c W) : Calls Try.prog 7 #[v] w fun e w' => e = .returned (.bool true) ∧ Below w.heap.size w w' := by
  have HC := Lib.hid H; clear H
  go_enter Try.func7, Try.ntmps7
  go_wp2_with fail
  refine (awake_any _).mono ?_
  rintro e w1 ⟨rfl, hb1⟩
  have HB := Lib.hid hb1; clear hb1
  go_wp2_with fail
  refine (HC.out _ HB.out).line.mono ?_
  rintro e w' ⟨rfl, rfl⟩
  go_wp2_with fail
  refine (HC.out _ HB.out).dline.mono ?_
  rintro e w' ⟨rfl, rfl⟩
  go_wp2_with fail
  refine (same_words (n := 0) (X := fun _ => 0) (rd_nil _ _) (rd_nil _ _) (by decide)).mono ?_
  rintro e w' ⟨rfl, k, hw⟩
  have HB := Lib.hid (show Below w.heap.size w w' by rw [hw]; exact below_drewN HB.out k); clear hw
  rcases hc with rfl | rfl
  all_goals go_wp2_with fail
  all_goals refine (HC.out _ HB.out).unline.mono ?_
  all_goals rintro e w' ⟨rfl, rfl⟩
  all_goals go_wp2_with fail
  all_goals refine (HC.out _ HB.out).dunline.mono ?_
  all_goals rintro e w' ⟨rfl, rfl⟩
  all_goals go_wp2_with fail
  all_goals refine (same_words (n := 0) (X := fun _ => 0) (rd_nil _ _) (rd_nil _ _) (by decide)).mono ?_
  all_goals rintro e w' ⟨rfl, k, hw⟩
  all_goals have HB := Lib.hid (show Below w.heap.size w w' by rw [hw]; exact below_drewN HB.out k)
  all_goals clear hw
  all_goals go_wp2
  all_goals go_ret
  all_goals exact ⟨rfl, HB.out⟩
theorem drew_below {w W w' : World} (hb : Below w.heap.size w W) {k : Nat} (h : w' = W.drewN k) : Below w.heap.size w w' := by rw [h]; exact below_drewN hb k
theorem rd_drew {W w' : World} {v : Value} {n : Nat} {f : Nat → Value} (h : Rd W v n f) {k : Nat} (e : w' = W.drewN k) : Rd w' v n f := by
  rw [e]; exact h
set_option maxHeartbeats 2000000 in
theorem lines_good (v : Value) (n : Nat) (x : Nat → F) (w : World) (hr : rightB n = true) (h : Rd w v n (fun i => wd (x i))) : Calls Try.prog 7 #[v] w fun e w' => e = .returned (.bool true) ∧ Below w.heap.size w w' := by
  have hn := (right_le hr).2.2
  have HR := Lib.hid (And.intro hr h); clear hr h
  go_enter Try.func7, Try.ntmps7
  go_wp2_with fail
  refine (awake_any _).mono ?_
  rintro e w1 ⟨rfl, hb1⟩
  have HB := Lib.hid hb1; clear hb1
  go_wp2_with fail
  refine (good_line HR.out.1 (HR.out.2.below HB.out)).line.mono ?_
  rintro e w2 ⟨⟨r1, rfl, m1⟩, hb2⟩
  have HB2 := Lib.hid (HB.out.trans (hb2.mono HB.out.size))
  have R1 := Lib.hid (rd_made m1); clear m1 hb2
  go_wp2_with fail
  refine (good_line HR.out.1 (HR.out.2.below HB2.out)).dline.mono ?_
  rintro e w3 ⟨⟨r2, rfl, m2⟩, hb3⟩
  have HB3 := Lib.hid (HB2.out.trans (hb3.mono HB2.out.size))
  have R1 := Lib.hid (R1.out.below hb3)
  have R2 := Lib.hid (rd_made m2); clear m2 hb3
  go_wp2_with fail
  refine (same_words (X := fun i => (dft n (rt n) x i).val) R1.out R2.out (by omega)).mono ?_
  rintro e w4 ⟨rfl, k, hw⟩
  have HB4 := Lib.hid (drew_below HB3.out hw); clear hw R1 R2
  go_wp2_with fail
  refine (good_line HR.out.1 (HR.out.2.below HB4.out)).unline.mono ?_
  rintro e w5 ⟨⟨r3, rfl, m1⟩, hb2⟩
  have HB5 := Lib.hid (HB4.out.trans (hb2.mono HB4.out.size))
  have R1 := Lib.hid (rd_made m1); clear m1 hb2
  go_wp2_with fail
  refine (good_line HR.out.1 (HR.out.2.below HB5.out)).dunline.mono ?_
  rintro e w6 ⟨⟨r4, rfl, m2⟩, hb3⟩
  have HB6 := Lib.hid (HB5.out.trans (hb3.mono HB5.out.size))
  have R1 := Lib.hid (R1.out.below hb3)
  have R2 := Lib.hid (rd_made m2); clear m2 hb3
  go_wp2_with fail
  refine (same_words (X := fun i => (idft n x i).val) R1.out R2.out (by omega)).mono ?_
  rintro e w7 ⟨rfl, k, hw⟩
  have HB7 := Lib.hid (drew_below HB6.out hw); clear hw R1 R2
  go_wp2
  go_ret
  exact ⟨rfl, HB7.out⟩
theorem lines_any {v : Value} {n : Nat} {X : Nat → Nat} {w : World} (h : Rd w v n (fun i => wn (X i))) : Calls Try.prog 7 #[v] w fun e w' => e = .returned (.bool true) ∧ Below w.heap.size w w' := by
  rcases line_cases h with ⟨c, hc, H⟩ | ⟨hr, x, hx⟩
  · exact lines_bad v c w hc H
  · exact lines_good v n x w hr hx
set_option maxHeartbeats 2000000 in
theorem there_bad (v : Value) (c : Int) (w : World) (hc : c = 1 ∨ c = 3) (H : ∀ W, Below w.heap.size w W → BadL v c W) : Calls Try.prog 8 #[v] w fun e w' => e = .returned (.bool true) ∧ Below w.heap.size w w' := by
  have HC := Lib.hid H; clear H
  go_enter Try.func8, Try.ntmps8
  go_wp2_with fail
  refine (awake_any _).mono ?_
  rintro e w1 ⟨rfl, hb1⟩
  have HB := Lib.hid hb1; clear hb1
  go_wp2_with fail
  refine (HC.out _ HB.out).line.mono ?_
  rintro e w' ⟨rfl, rfl⟩
  go_wp2_with fail
  refine (HC.out _ HB.out).unline.mono ?_
  rintro e w' ⟨rfl, rfl⟩
  rcases hc with rfl | rfl
  all_goals go_wp2
  all_goals go_ret
  all_goals exact ⟨rfl, HB.out⟩
set_option maxHeartbeats 2000000 in
theorem there_good (v : Value) (n : Nat) (x : Nat → F) (w : World) (hr : rightB n = true) (h : Rd w v n (fun i => wd (x i))) : Calls Try.prog 8 #[v] w fun e w' => e = .returned (.bool true) ∧ Below w.heap.size w w' := by
  have hn := (right_le hr).2.2
  have HN := Lib.hid (right_le hr)
  have HR := Lib.hid (And.intro hr h); clear hr h
  go_enter Try.func8, Try.ntmps8
  go_wp2_with fail
  refine (awake_any _).mono ?_
  rintro e w1 ⟨rfl, hb1⟩
  have HB := Lib.hid hb1; clear hb1
  go_wp2_with fail
  refine (good_line HR.out.1 (HR.out.2.below HB.out)).line.mono ?_
  rintro e w2 ⟨⟨r1, rfl, m1⟩, hb2⟩
  have HB2 := Lib.hid (HB.out.trans (hb2.mono HB.out.size))
  have R1 := Lib.hid (rd_made m1); clear m1 hb2
  go_wp2_with fail
  refine (good_line HR.out.1 (HR.out.2.below HB2.out)).unline.mono ?_
  rintro e w3 ⟨⟨r2, rfl, m2⟩, hb3⟩
  have HB3 := Lib.hid (HB2.out.trans (hb3.mono HB2.out.size))
  have R1 := Lib.hid (R1.out.below hb3)
  have R2 := Lib.hid (rd_made m2); clear m2 hb3
  go_wp2_with fail
  refine (good_line HR.out.1 R1.out).unline.mono ?_
  rintro e w4 ⟨⟨r3, rfl, m3⟩, hb4⟩
  have HB4 := Lib.hid (HB3.out.trans (hb4.mono HB3.out.size))
  have R2 := Lib.hid (R2.out.below hb4)
  have R3 := Lib.hid (rd_made m3); clear m3 hb4
  go_wp2_with fail
  refine (good_line HR.out.1 R2.out).line.mono ?_
  rintro e w5 ⟨⟨r4, rfl, m4⟩, hb5⟩
  have HB5 := Lib.hid (HB4.out.trans (hb5.mono HB4.out.size))
  have R3 := Lib.hid (R3.out.below hb5)
  have R4 := Lib.hid (rd_made m4); clear m4 hb5
  go_wp2_with fail
  refine (same_words (X := fun i => (x i).val) (R3.out.congr fun i hi => by rw [idft_dft HN.out x hi]) (HR.out.2.below HB5.out) (by omega)).mono ?_
  rintro e w6 ⟨rfl, k, hw⟩
  have HB6 := Lib.hid (drew_below HB5.out hw)
  have R4 := Lib.hid (rd_drew R4.out hw); clear hw R1 R2 R3
  go_wp2_with fail
  refine (same_words (X := fun i => (x i).val) (R4.out.congr fun i hi => by rw [dft_idft HN.out x hi]) (HR.out.2.below HB6.out) (by omega)).mono ?_
  rintro e w7 ⟨rfl, k, hw⟩
  have HB7 := Lib.hid (drew_below HB6.out hw); clear hw R4
  go_wp2
  go_ret
  exact ⟨rfl, HB7.out⟩
theorem there_any {v : Value} {n : Nat} {X : Nat → Nat} {w : World} (h : Rd w v n (fun i => wn (X i))) : Calls Try.prog 8 #[v] w fun e w' => e = .returned (.bool true) ∧ Below w.heap.size w w' := by
  rcases line_cases h with ⟨c, hc, H⟩ | ⟨hr, x, hx⟩
  · exact there_bad v c w hc H
  · exact there_good v n x w hr hx

end Go.Proofs.Ytjmhnmlmnlefaaa
