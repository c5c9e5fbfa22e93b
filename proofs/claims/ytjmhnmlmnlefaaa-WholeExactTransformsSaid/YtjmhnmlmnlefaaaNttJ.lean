/-
  Unline; the document's Root, Line, Unline.
-/
import Derived.Test.YtjmhnmlmnlefaaaNttI
namespace Go.Proofs.Ytjmhnmlmnlefaaa
open Go.RowKit Go.Lib
attribute [local irreducible] World.setCell
set_option linter.unusedSimpArgs false
set_option linter.unusedVariables false


set_option maxHeartbeats 1000000 in
theorem Unline_arg (a : Option Addr) (n cap : Nat) (w : World) (hr : rightB n = false) : Calls Try.prog 29 #[.slice a n cap] w fun e w' => e = .returned (.tuple #[.slice none 0 0, .int .i64 1]) ∧ w = w' := by
  go_enter Try.func29, Try.ntmps29
  go_wp2_with fail
  refine (check_arg a n cap _ hr).mono ?_
  rintro e w' ⟨rfl, rfl⟩
  go_wp2
  go_ret2
  exact ⟨rfl, rfl⟩
set_option maxHeartbeats 1000000 in
theorem Unline_form (b off n cap m : Nat) (X : Nat → Nat) (w : World) (hr : rightB n = true) (hm : m < n) (hc : ∀ i, i < n → w.cell? ⟨b, off + i, none⟩ = some (wn (X i))) (hlo : ∀ i, i < m → X i < 18446744069414584321) (hbad : 18446744069414584321 ≤ X m) : Calls Try.prog 29 #[.slice (some ⟨b, off, none⟩) n cap] w fun e w' => e = .returned (.tuple #[.slice none 0 0, .int .i64 3]) ∧ w = w' := by
  have HC := Lib.hid (fun w' (q : ∀ i, i < n → World.cell? w' ⟨b, off + i, none⟩ = some (wn (X i))) => check_run b off n cap m X w' hr (right_le hr).2.2 (by omega) q hlo (fun _ => hbad))
  have HW := Lib.hid hc; have HM := Lib.hid (if_pos hm : (if m < n then (3 : Int) else 0) = 3); clear hr hlo hbad hc hm
  go_enter Try.func29, Try.ntmps29
  go_wp2_with fail
  refine (HC.out _ HW.out).mono ?_
  rintro e w' ⟨rfl, rfl⟩
  rw [HM.out]
  go_wp2
  go_ret2
  exact ⟨rfl, rfl⟩

set_option maxHeartbeats 1000000 in
theorem DocLine_arg (a : Option Addr) (n cap : Nat) (w : World) (hr : rightB n = false) : Calls Try.prog 27 #[.slice a n cap] w fun e w' => e = .returned (.tuple #[.slice none 0 0, .int .i64 1]) ∧ w = w' := by
  go_enter Try.func27, Try.ntmps27
  go_wp2_with fail
  refine (rcheck_arg a n cap _ hr).mono ?_
  rintro e w' ⟨rfl, rfl⟩
  go_wp2
  go_ret2
  exact ⟨rfl, rfl⟩
set_option maxHeartbeats 1000000 in
theorem DocLine_form (b off n cap m : Nat) (X : Nat → Nat) (w : World) (hr : rightB n = true) (hm : m < n) (hc : ∀ i, i < n → w.cell? ⟨b, off + i, none⟩ = some (wn (X i))) (hlo : ∀ i, i < m → X i < 18446744069414584321) (hbad : 18446744069414584321 ≤ X m) : Calls Try.prog 27 #[.slice (some ⟨b, off, none⟩) n cap] w fun e w' => e = .returned (.tuple #[.slice none 0 0, .int .i64 3]) ∧ w = w' := by
  have HC := Lib.hid (fun w' (q : ∀ i, i < n → World.cell? w' ⟨b, off + i, none⟩ = some (wn (X i))) => rcheck_run b off n cap m X w' hr (right_le hr).2.2 (by omega) q hlo (fun _ => hbad))
  have HW := Lib.hid hc; have HM := Lib.hid (if_pos hm : (if m < n then (3 : Int) else 0) = 3); clear hr hlo hbad hc hm
  go_enter Try.func27, Try.ntmps27
  go_wp2_with fail
  refine (HC.out _ HW.out).mono ?_
  rintro e w' ⟨rfl, rfl⟩
  rw [HM.out]
  go_wp2
  go_ret2
  exact ⟨rfl, rfl⟩

set_option maxHeartbeats 1000000 in
theorem DocUnline_arg (a : Option Addr) (n cap : Nat) (w : World) (hr : rightB n = false) : Calls Try.prog 30 #[.slice a n cap] w fun e w' => e = .returned (.tuple #[.slice none 0 0, .int .i64 1]) ∧ w = w' := by
  go_enter Try.func30, Try.ntmps30
  go_wp2_with fail
  refine (rcheck_arg a n cap _ hr).mono ?_
  rintro e w' ⟨rfl, rfl⟩
  go_wp2
  go_ret2
  exact ⟨rfl, rfl⟩
set_option maxHeartbeats 1000000 in
theorem DocUnline_form (b off n cap m : Nat) (X : Nat → Nat) (w : World) (hr : rightB n = true) (hm : m < n) (hc : ∀ i, i < n → w.cell? ⟨b, off + i, none⟩ = some (wn (X i))) (hlo : ∀ i, i < m → X i < 18446744069414584321) (hbad : 18446744069414584321 ≤ X m) : Calls Try.prog 30 #[.slice (some ⟨b, off, none⟩) n cap] w fun e w' => e = .returned (.tuple #[.slice none 0 0, .int .i64 3]) ∧ w = w' := by
  have HC := Lib.hid (fun w' (q : ∀ i, i < n → World.cell? w' ⟨b, off + i, none⟩ = some (wn (X i))) => rcheck_run b off n cap m X w' hr (right_le hr).2.2 (by omega) q hlo (fun _ => hbad))
  have HW := Lib.hid hc; have HM := Lib.hid (if_pos hm : (if m < n then (3 : Int) else 0) = 3); clear hr hlo hbad hc hm
  go_enter Try.func30, Try.ntmps30
  go_wp2_with fail
  refine (HC.out _ HW.out).mono ?_
  rintro e w' ⟨rfl, rfl⟩
  rw [HM.out]
  go_wp2
  go_ret2
  exact ⟨rfl, rfl⟩

set_option maxHeartbeats 1000000 in
theorem Unline_ok (b off n cap : Nat) (x : Nat → F) (w : World) (hr : rightB n = true) (hb : b < w.heap.size) (hx : Wds w b off n x) : Calls Try.prog 29 #[.slice (some ⟨b, off, none⟩) n cap] w fun e w' => (∃ g, e = .returned (.tuple #[.slice (some ⟨g, 0, none⟩) n n, .int .i64 0]) ∧ w.heap.size ≤ g ∧ w'.rowIs g 41 n (fun i => wd (idft n x i))) ∧ Below w.heap.size w w' := by
  obtain ⟨h0, hd, hn⟩ := right_le hr
  have HC := Lib.hid (check_run b off n cap n (fun i => (x i).val) w hr hn (Nat.le_refl _) hx (fun i _ => F.lt _) (fun h => absurd h (Nat.lt_irrefl _)))
  have HM := Lib.hid (if_neg (Nat.lt_irrefl n) : (if n < n then (3 : Int) else 0) = 0)
  have HR := Lib.hid (And.intro hr hd); have HX := Lib.hid hx; clear hr hd hx
  go_enter Try.func29, Try.ntmps29
  go_wp2_with fail
  refine HC.out.mono ?_
  rintro e w' ⟨rfl, rfl⟩
  rw [HM.out]
  go_wp2_with fail
  refine (unline_any b off n cap x _ h0 HR.out.2 hb HX.out).mono ?_
  rintro e w' ⟨⟨g, rfl, hg, hr⟩, hbel⟩
  go_wp2
  go_ret2
  exact ⟨⟨g, rfl, hg, hr⟩, hbel⟩
theorem Root_bad (n : Int) (w : World) (hr : rightB n = false) : Calls Try.prog 25 #[.int .i64 n] w fun e w' => e = .returned (.tuple #[.int .u64 0, .int .i64 1]) ∧ w = w' := by
  have HR := Lib.hid hr; clear hr
  go_enter Try.func25, Try.ntmps25
  go_wp2_with fail
  refine (right_any _ _).mono ?_
  rintro e w' ⟨rfl, rfl⟩
  rw [HR.out]
  go_wp2
  go_ret2
  exact ⟨rfl, rfl⟩
theorem Root_ok (n : Nat) (w : World) (hr : rightB n = true) : Calls Try.prog 25 #[.int .i64 n] w fun e w' => e = .returned (.tuple #[wd (rt n), .int .i64 0]) ∧ ∃ k, w' = w.drewN k := by
  obtain ⟨h0, hd, hn⟩ := right_le hr
  have HR := Lib.hid hr; clear hr hd
  go_enter Try.func25, Try.ntmps25
  go_wp2_with fail
  refine (right_any _ _).mono ?_
  rintro e w' ⟨rfl, rfl⟩
  rw [HR.out]
  go_wp2_with fail
  refine (root_any n _ (by omega) (by omega)).mono ?_
  rintro e w' ⟨rfl, k, rfl⟩
  rw [Int.toNat_natCast]
  go_wp2
  go_ret2
  exact ⟨rfl, _, rfl⟩
theorem DocRoot_bad (n : Int) (w : World) (hr : rightB n = false) : Calls Try.prog 26 #[.int .i64 n] w fun e w' => e = .returned (.tuple #[.int .u64 0, .int .i64 1]) ∧ w = w' := by
  have HR := Lib.hid hr; clear hr
  go_enter Try.func26, Try.ntmps26
  go_wp2_with fail
  refine (divides_any _ _).mono ?_
  rintro e w' ⟨rfl, rfl⟩
  rw [HR.out]
  go_wp2
  go_ret2
  exact ⟨rfl, rfl⟩
set_option maxRecDepth 100000 in
theorem DocRoot_ok (n : Nat) (w : World) (hr : rightB n = true) : Calls Try.prog 26 #[.int .i64 n] w fun e w' => e = .returned (.tuple #[wd (rt n), .int .i64 0]) ∧ w = w' := by
  obtain ⟨h0, hd, hn⟩ := right_le hr
  have hq : (PP - 1) / (n : Int).toNat < 18446744073709551616 := Nat.lt_of_le_of_lt (Nat.div_le_self _ _) (by decide)
  have HR := Lib.hid hr; have HQ := Lib.hid hq; clear hr hd hq
  have hne : ¬ (n : Int) = 0 := by omega
  have hn1 : (1 : Int) ≤ n := by omega
  go_enter Try.func26, Try.ntmps26
  go_wp2_with fail
  refine (divides_any _ _).mono ?_
  rintro e w' ⟨rfl, rfl⟩
  rw [HR.out]
  go_wp2_with fail
  rw [root_arg n hn1]
  refine (rpower_any 7 _ _ HQ.out).mono ?_
  rintro e w' ⟨rfl, rfl⟩
  go_wp2
  go_ret2
  exact ⟨rfl, rfl⟩
theorem Prime_any (w : World) : Calls Try.prog 32 #[] w fun e w' => e = .returned (.int .u64 18446744069414584321) ∧ w = w' := by
  go_enter Try.func32, Try.ntmps32
  go_wp2
  go_ret
  exact ⟨rfl, rfl⟩
set_option maxHeartbeats 1000000 in
theorem DocLine_ok (b off n cap : Nat) (x : Nat → F) (w : World) (hr : rightB n = true) (hb : b < w.heap.size) (hx : Wds w b off n x) : Calls Try.prog 27 #[.slice (some ⟨b, off, none⟩) n cap] w fun e w' => (∃ v, e = .returned (.tuple #[v, .int .i64 0]) ∧ Made w' w.heap.size v n (dft n (rt n) x)) ∧ Below w.heap.size w w' := by
  obtain ⟨h0, hd, hn⟩ := right_le hr
  have HC := Lib.hid (rcheck_run b off n cap n (fun i => (x i).val) w hr hn (Nat.le_refl _) hx (fun i _ => F.lt _) (fun h => absurd h (Nat.lt_irrefl _)))
  have HM := Lib.hid (if_neg (Nat.lt_irrefl n) : (if n < n then (3 : Int) else 0) = 0)
  have HR := Lib.hid (And.intro hr hd); have HX := Lib.hid hx; clear hr hd hx
  go_enter Try.func27, Try.ntmps27
  go_wp2_with fail
  refine HC.out.mono ?_
  rintro e w' ⟨rfl, rfl⟩
  rw [HM.out]
  go_wp2_with fail
  refine (DocRoot_ok n _ HR.out.1).mono ?_
  rintro e w' ⟨rfl, rfl⟩
  go_wp2_with fail
  refine (sums_any n b off cap x (rt n) _ hn hb HX.out).mono ?_
  rintro e w' ⟨⟨v, rfl, hv⟩, hbel⟩
  go_wp2
  go_ret2
  exact ⟨⟨v, rfl, hv⟩, hbel⟩
set_option maxHeartbeats 1000000 in
set_option maxRecDepth 100000 in
theorem DocUnline_ok (b off n cap : Nat) (x : Nat → F) (w : World) (hr : rightB n = true) (hb : b < w.heap.size) (hx : Wds w b off n x) : Calls Try.prog 30 #[.slice (some ⟨b, off, none⟩) n cap] w fun e w' => (∃ v, e = .returned (.tuple #[v, .int .i64 0]) ∧ Made w' w.heap.size v n (idft n x)) ∧ Below w.heap.size w w' := by
  obtain ⟨h0, hd, hn⟩ := right_le hr
  have HC := Lib.hid (rcheck_run b off n cap n (fun i => (x i).val) w hr hn (Nat.le_refl _) hx (fun i _ => F.lt _) (fun h => absurd h (Nat.lt_irrefl _)))
  have HM := Lib.hid (if_neg (Nat.lt_irrefl n) : (if n < n then (3 : Int) else 0) = 0)
  have HR := Lib.hid (And.intro hr hd); have HX := Lib.hid hx; clear hr hd hx
  go_enter Try.func30, Try.ntmps30
  go_wp2_with fail
  refine HC.out.mono ?_
  rintro e w' ⟨rfl, rfl⟩
  rw [HM.out]
  go_wp2_with fail
  refine (DocRoot_ok n _ HR.out.1).mono ?_
  rintro e w' ⟨rfl, rfl⟩
  go_wp2_with fail
  refine (rpower_any (rt n) 18446744069414584319 _ (by decide)).mono ?_
  rintro e w' ⟨rfl, rfl⟩
  obtain ⟨rr, err⟩ : ∃ o, o = pw (rt n) 18446744069414584319 := ⟨_, rfl⟩
  rw [← err]
  have RR := Lib.hid err; clear err
  go_wp2_with fail
  refine (sums_any n b off cap x rr _ hn hb HX.out).mono ?_
  rintro e w1 ⟨⟨v, rfl, hv⟩, hbel⟩
  obtain ⟨g, cp, rfl, hg, hgl, hw⟩ := Made.slice hv h0
  have HV := Lib.hid hv; have HB := Lib.hid hbel; clear hv hbel hw
  go_wp2_with fail
  rw [wd_nF hn]
  refine (rpower_any (nF n) 18446744069414584319 _ (by decide)).mono ?_
  rintro e w' ⟨rfl, rfl⟩
  obtain ⟨ov, eov⟩ : ∃ o, o = pw (nF n) 18446744069414584319 := ⟨_, rfl⟩
  rw [← eov]
  have OV := Lib.hid eov; clear eov
  go_wp2
  go_loopw [31] (fun i wr => ∃ j : Nat, j ≤ n ∧ i = .int .i64 j ∧ Made wr w.heap.size (.slice (some ⟨g, 0, none⟩) n cp) n (fun i => if i < j then dft n rr x i * ov else dft n rr x i) ∧ Below w.heap.size w wr) (fun i _ => n - (RowKit.intOf i).toNat)
  case atStart => exact ⟨0, Nat.zero_le _, rfl, HV.out.congr (fun i _ => by rw [if_neg (by omega)]), HB.out⟩
  case round =>
    obtain ⟨j, hj, rfl, hrow, hbel⟩ := hrel
    have hc : j < n → wr.cell? ⟨g, j, none⟩ = some (wd (dft n rr x j)) := fun h => by
      rw [World.ownsRow.cellAt hrow j (by omega), LW_get n _ j h, if_neg (by omega)]
    have hf : wr.frozen? ⟨g, j, none⟩ = false := World.ownsRow.frozenAt hrow j
    have HRW := Lib.hid hrow; have HBW := Lib.hid hbel; clear hrow hbel HV HB
    by_cases hjn : j < n
    · have hc := hc hjn
      go_wp2_with (go_at_call 24; refine (rmul_any _ _ _).mono ?_; rintro e w' ⟨rfl, rfl⟩)
      go_roundw
      case rel =>
        refine ⟨j + 1, by omega, by go_num, HRW.out.store j _ _ (fun i _ => ?_), HBW.out.setCell hg _⟩
        by_cases q : i = j
        · subst q; rw [if_pos rfl, if_pos (by omega)]
        · rw [if_neg q]
          by_cases q2 : i < j
          · rw [if_pos q2, if_pos (by omega)]
          · rw [if_neg q2, if_neg (by omega)]
      case measure => simp [RowKit.intOf]; omega
    · go_wp2
      go_ret2
      have e : j = n := by omega
      subst e
      exact ⟨⟨_, rfl, HRW.out.congr (fun i hi => by rw [if_pos hi, OV.out, RR.out]; rfl)⟩, HBW.out⟩

end Go.Proofs.Ytjmhnmlmnlefaaa
