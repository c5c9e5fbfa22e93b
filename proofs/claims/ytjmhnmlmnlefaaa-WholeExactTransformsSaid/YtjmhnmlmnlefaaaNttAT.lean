/-
  The statement WholeExactTransforms, walked.
-/
import Derived.Test.YtjmhnmlmnlefaaaNttAS
namespace Go.Proofs.Ytjmhnmlmnlefaaa
open Go.RowKit Go.Lib
attribute [local irreducible] World.setCell
set_option linter.unusedSimpArgs false
set_option linter.unusedVariables false


def u3 (b0 b1 b2 : Nat) (i : Nat) : Value := if i = 0 then .int .u8 b0 else if i = 1 then .int .u8 b1 else .int .u8 b2
theorem u3_row (w : World) (b0 b1 b2 : Nat) : (w.alloc (.cells #[.int .u8 b0, .int .u8 b1, .int .u8 b2] 60)).rowIs w.heap.size 60 3 (u3 b0 b1 b2) :=
  World.rowIs_alloc w #[.int .u8 b0, .int .u8 b1, .int .u8 b2] 60 (u3 b0 b1 b2) (fun i hi => by match i, hi with | 0, _ => rfl | 1, _ => rfl | 2, _ => rfl)
theorem rd_cell {w : World} {g n c : Nat} {f : Nat → Value} (h : Rd w (.slice (some ⟨g, 0, none⟩) n c) n f) {i : Nat} (hi : i < n) : w.cell? ⟨g, i, none⟩ = some (f i) ∧ g < w.heap.size := by
  obtain ⟨a, k, e, h⟩ := h
  cases e
  obtain ⟨b, o, e, hl, hc⟩ := h (by omega)
  cases e
  have := hc i hi
  rw [Nat.zero_add] at this
  exact ⟨this, hl⟩
theorem made_set (w : World) (z v : Value) (t : TypeId) {n m : Nat} (hm : m < n) : (w.alloc (.cells ((madeCells #[z] n).setIfInBounds m v) t)).rowIs w.heap.size t n (fun i => if i = m then v else z) := by
  have hs := size_madeCells #[z] n
  have h := World.rowIs_alloc w ((madeCells #[z] n).setIfInBounds m v) t (fun i => if i = m then v else z) (fun i hi => by
    have hi' : i < n := by simpa [hs] using hi
    rw [Array.getElem?_setIfInBounds]
    show _ = some (if i = m then v else z)
    by_cases q : m = i
    · rw [if_pos q, if_pos (by omega), if_pos q.symm]
    · rw [if_neg q, if_neg (fun e => q e.symm)]
      simp [madeCells, hi', Nat.mod_one])
  rw [Array.size_setIfInBounds, hs] at h
  exact h
theorem one_wd (m i : Nat) : (if i = m then Value.int .u64 1 else .int .u64 0) = wd (if i = m then 1 else 0) := by
  by_cases q : i = m
  · rw [if_pos q, if_pos q]; rfl
  · rw [if_neg q, if_neg q]; rfl
theorem dft_lone (n : Nat) (w : F) {m : Nat} (hm : m < n) (j : Nat) : dft n w (fun i => if i = m then 1 else 0) j = pw w (j * m) := by
  unfold dft
  have h : ∀ k, sm k (fun i => (if i = m then (1 : F) else 0) * pw w (j * i)) = if m < k then pw w (j * m) else 0 := fun k => by
    induction k with
    | zero => rfl
    | succ k ih =>
      rw [sm_succ, ih]
      by_cases q : k = m
      · subst q; rw [if_neg (Nat.lt_irrefl _), if_pos rfl, if_pos (by omega)]; grind
      · rw [if_neg q]
        by_cases z : m < k
        · rw [if_pos z, if_pos (by omega)]; grind
        · rw [if_neg z, if_neg (by omega)]; grind
  rw [h n, if_pos hm]
def lineF (nx : Nat) (X : Nat → Nat) (i : Nat) : F := if i < nx then Fin.ofNat PP (X i) else Fin.ofNat PP i
set_option maxHeartbeats 16000000 in
set_option maxRecDepth 100000 in
theorem exact_any {b0 b1 b2 kb : Nat} {sv sw sx : Value} {lv lw nx : Nat} {V W : Nat → Int} {X : Nat → Nat} {w : World} (hb0 : b0 ≤ 255) (hb1 : b1 ≤ 255) (hb2 : b2 ≤ 255) (hkb : kb ≤ 255)
    (hV : Rd w sv lv (fun i => .int .i16 (V i))) (hlv : lv ≤ 140737488355328) (hVb : ∀ i, -32768 ≤ V i ∧ V i ≤ 32767) (hW : Rd w sw lw (fun i => .int .i16 (W i))) (hlw : lw ≤ 140737488355328) (hWb : ∀ i, -32768 ≤ W i ∧ W i ≤ 32767)
    (hX : Rd w sx nx (fun i => wn (X i))) (hnx : nx ≤ 17592186044416) :
    Calls Try.prog 12 #[.agg #[.int .u8 b0, .int .u8 b1, .int .u8 b2], sv, sw, sx, .int .u8 kb] w fun e w' => e = .returned (.bool true) ∧ Below w.heap.size w w' := by
  obtain ⟨i0, HI0⟩ : ∃ i0, Hid (Try.prog.info? 41 = some i0 ∧ i0.size = 1 ∧ i0.zero = some (.int .u64 0) ∧ i0.bytes = 8) := by obtain ⟨i0, h0, h2, h1, h3⟩ := info_parts info41; exact ⟨i0, Lib.hid ⟨h0, h1, h2, h3⟩⟩
  obtain ⟨n, en⟩ : ∃ n, n = lenOf kb 192 := ⟨_, rfl⟩
  have hn := lenOf_right kb 192 (by decide)
  rw [← en] at hn
  have HN := Lib.hid (And.intro en hn)
  have HR := Lib.hid hn.1
  have hn1 : 1 ≤ n := hn.2.1
  have hn2 : n ≤ 192 := hn.2.2
  have hni : (n : Int) ≤ 192 := by omega
  have hn1i : (1 : Int) ≤ n := by omega
  have hnxi : (nx : Int) ≤ 17592186044416 := by omega
  have RV := Lib.hid (fun w' (hb : Below w.heap.size w w') => hV.below hb)
  have RW := Lib.hid (fun w' (hb : Below w.heap.size w w') => hW.below hb)
  have HVB := Lib.hid hVb; have HWB := Lib.hid hWb
  obtain ⟨va, vc, rfl, _⟩ := hV
  obtain ⟨wa, wc, rfl, _⟩ := hW
  obtain ⟨xa, xc, rfl, hx⟩ := hX
  have HX := Lib.hid hx
  clear en hn hVb hWb hx
  go_enter Try.func12, Try.ntmps12
  go_wp2_with fail
  refine (Prime_any _).mono ?_
  rintro e w' ⟨rfl, rfl⟩
  go_wp2_with fail
  refine (lengths_any kb 192 _ hkb (by decide) (by decide)).mono ?_
  rintro e W1 ⟨rfl, hb⟩
  have RH := Lib.hid (show Has [⟨w.heap.size, 60, 3, u3 b0 b1 b2⟩] W1 from .cons ((u3_row w b0 b1 b2).of_block (hb.block _ (by simp))) (.nil _))
  have HB := Lib.hid (show Below w.heap.size w W1 from Below.trans (show Below w.heap.size w (w.alloc (.cells #[.int .u8 b0, .int .u8 b1, .int .u8 b2] 60)) from (by repeat (first | assumption | exact Below.refl _ _ | refine below_drewN ?_ _ | refine Below.drew ?_ | refine Below.alloc ?_ (by first | (simp; done) | (simp; omega) | omega) _ | refine Below.setCell ?_ (by first | (simp; done) | (simp; omega) | omega) _))) (hb.mono (by simp)))
  clear hb
  rw [← HN.out.1]
  go_wp2
  go_loopw [13, 14] (fun s y wr => ∃ j : Nat, j ≤ n ∧ y = .int .i64 j ∧ wr.ownsRow (w.heap.size + 1) 41 1 s j (LW j (lineF nx X)) ∧ (Has [⟨w.heap.size, 60, 3, u3 b0 b1 b2⟩] wr) ∧ Below w.heap.size w wr) (fun _ y _ => n - (RowKit.intOf y).toNat)
  case atStart => exact ⟨0, Nat.zero_le _, rfl, World.ownsRow_nil _ _ _ _, RH.out, HB.out⟩
  case round =>
    obtain ⟨j, hj, rfl, hown, hrh, hhb⟩ := hrel
    have RHr := Lib.hid hrh; have HBr := Lib.hid hhb; have HO := Lib.hid hown
    clear hrh hhb hown RH HB
    by_cases hjn : j < n
    · have hjl : (j : Int) < (n : Int) := by omega
      have hbs := HBr.out.size
      have hlb : w.heap.size < wr.heap.size := (RHr.out.lt _ (List.mem_cons_self ..))
      by_cases hjx : j < nx
      · have hjxl : (j : Int) < (nx : Int) := by omega
        obtain ⟨xb, xo, rfl, hxl, hxc⟩ := HX.out (by omega)
        obtain ⟨x, ex⟩ : ∃ x, x = X j := ⟨_, rfl⟩
        have cx : wr.cell? ⟨xb, xo + j, none⟩ = some (.int .u64 (x : Int)) := by rw [ex]; exact (HBr.out.cell (p := ⟨xb, xo + j, none⟩) hxl).trans (hxc j hjx)
        obtain ⟨f, ef⟩ : ∃ f, f = lineF nx X j := ⟨_, rfl⟩
        have HF := Lib.hid (show wd (lineF nx X j) = wd f by rw [ef])
        have hm : (x : Int) % 18446744069414584321 = ((f.val : Nat) : Int) := by rw [ef, ex]; unfold lineF; rw [if_pos hjx]; rfl
        clear ef ex hxl hxc
        go_wp2_with (at_builtin; refine wpList_append_own _ rfl _ _ 40 rfl (w.heap.size + 1) 41 i0 (.int .u64 0) 1 8 Try.underlying40 HI0.out.1 HI0.out.2.2.1 HI0.out.2.1 HI0.out.2.2.2 rfl (by decide) _ _ _ rfl (HO.out.alloc _) ⟨wr.heap.size, 0, none⟩ 1 1 [wd f] rfl rfl (lit1 _ _ _) ?c2 ?c3 ?c4 ?c5 ?_)
        try case c2 => first | rfl | (intro u hu; simp at hu; subst hu; rfl)
        try case c3 => unfold maxLen; omega
        try case c4 => omega
        try case c5 => first | omega | (simp; omega)
        intro v' w1 hown' hgrow _
        have hO1 : w1.ownsRow (w.heap.size + 1) 41 1 v' (j + 1) (LW (j + 1) (lineF nx X)) := by rw [LW_succ, HF.out]; exact hown'
        have hbx : Below (w.heap.size + 1) wr w1 := (Below.refl _ _).alloc (by omega) _ |>.grown hgrow (by simp; omega) (fun k hk => (HO.out.lt k hk).1)
        have HO1 := Lib.hid hO1; have RH1 := Lib.hid (show Has [⟨w.heap.size, 60, 3, u3 b0 b1 b2⟩] w1 from .cons ((show World.rowIs wr (w.heap.size) 60 (3) (u3 b0 b1 b2) from RHr.out.one 0 (by simp)).of_block (hbx.block _ (by omega))) (.nil _)); have HB1 := Lib.hid (HBr.out.trans (hbx.mono (by omega)))
        clear hown' hgrow hO1 hbx HF
        go_wp2
        go_roundw
        case rel => exact ⟨j + 1, by omega, by go_num, HO1.out, RH1.out, HB1.out⟩
        case measure => simp [RowKit.intOf]; omega
      · have hjxl : ¬ (j : Int) < (nx : Int) := by omega
        have HF := Lib.hid (show wd (lineF nx X j) = .int .u64 (j : Int) by unfold lineF; rw [if_neg hjx]; exact congrArg (fun q : Nat => Value.int .u64 (q : Int)) (show j % 18446744069414584321 = j by omega))
        have hwu : IntKind.u64.wrap (j : Int) = (j : Int) := by rw [IntKind.wrap_u64]; omega
        go_wp2_with (at_builtin; refine wpList_append_own _ rfl _ _ 40 rfl (w.heap.size + 1) 41 i0 (.int .u64 0) 1 8 Try.underlying40 HI0.out.1 HI0.out.2.2.1 HI0.out.2.1 HI0.out.2.2.2 rfl (by decide) _ _ _ rfl (HO.out.alloc _) ⟨wr.heap.size, 0, none⟩ 1 1 [.int .u64 (j : Int)] rfl rfl (lit1 _ _ _) ?d2 ?d3 ?d4 ?d5 ?_)
        try case d2 => first | rfl | (intro u hu; simp at hu; subst hu; rfl)
        try case d3 => unfold maxLen; omega
        try case d4 => omega
        try case d5 => first | omega | (simp; omega)
        intro v' w1 hown' hgrow _
        have hO1 : w1.ownsRow (w.heap.size + 1) 41 1 v' (j + 1) (LW (j + 1) (lineF nx X)) := by rw [LW_succ, HF.out]; exact hown'
        have hbx : Below (w.heap.size + 1) wr w1 := (Below.refl _ _).alloc (by omega) _ |>.grown hgrow (by simp; omega) (fun k hk => (HO.out.lt k hk).1)
        have HO1 := Lib.hid hO1; have RH1 := Lib.hid (show Has [⟨w.heap.size, 60, 3, u3 b0 b1 b2⟩] w1 from .cons ((show World.rowIs wr (w.heap.size) 60 (3) (u3 b0 b1 b2) from RHr.out.one 0 (by simp)).of_block (hbx.block _ (by omega))) (.nil _)); have HB1 := Lib.hid (HBr.out.trans (hbx.mono (by omega)))
        clear hown' hgrow hO1 hbx HF
        go_wp2
        go_roundw
        case rel => exact ⟨j + 1, by omega, by go_num, HO1.out, RH1.out, HB1.out⟩
        case measure => simp [RowKit.intOf]; omega
    · have hj2 : j = n := by omega
      have RH := RHr; have HB := HBr
      clear RHr HBr
      have HM := Lib.hid (show Made wr (w.heap.size + 1) _ n (lineF nx X) from hj2 ▸ HO.out)
      clear HO hj2
      obtain ⟨F0, eF0⟩ : ∃ f, f = lineF nx X := ⟨_, rfl⟩
      rw [← eF0] at HM
      clear eF0
      obtain ⟨gl, cl, rfl, hgl, _⟩ := HM.out.slice hn1
      have RL := Lib.hid (rd_made HM.out)
      clear HM
      go_wp2_with fail
      refine (good_line HR.out RL.out).line.mono ?_
      rintro e W2 ⟨⟨r1, rfl, m1⟩, hb⟩
      obtain ⟨gt, ct, rfl, hgt, _⟩ := m1.slice hn1
      have RT := Lib.hid (rd_made m1)
      clear m1
      have hbx := hb
      replace RH := Lib.hid (show Has [⟨w.heap.size, 60, 3, u3 b0 b1 b2⟩] W2 from RH.out.step hbx)
      replace HB := Lib.hid (HB.out.trans (hbx.mono HB.out.size))
      replace RL := Lib.hid (RL.out.below hbx)
      clear hbx hb
      go_wp2_with fail
      refine (good_line HR.out RT.out).unline.mono ?_
      rintro e W3 ⟨⟨r2, rfl, m1⟩, hb⟩
      obtain ⟨gb, cb, rfl, hgb, _⟩ := m1.slice hn1
      have RB := Lib.hid ((rd_made m1).congr (g := fun i => wd (F0 i)) (fun i hi => by rw [idft_dft (right_le HR.out) F0 hi]))
      clear m1
      have hbx := hb
      replace RH := Lib.hid (show Has [⟨w.heap.size, 60, 3, u3 b0 b1 b2⟩] W3 from RH.out.step hbx)
      replace HB := Lib.hid (HB.out.trans (hbx.mono HB.out.size))
      replace RL := Lib.hid (RL.out.below hbx)
      replace RT := Lib.hid (RT.out.below hbx)
      clear hbx hb
      go_wp2
      go_loopw [20] (fun y wr => ∃ j q : Nat, j ≤ n ∧ y = .int .i64 j ∧ wr = W3.drewN q) (fun y _ => n - (RowKit.intOf y).toNat)
      case atStart => exact ⟨0, 0, Nat.zero_le _, rfl, rfl⟩
      case round =>
        obtain ⟨j, q, hj, rfl, rfl⟩ := hrel
        by_cases hjn2 : j < n
        · have hjl : (j : Int) < (n : Int) := by omega
          obtain ⟨z, ez⟩ : ∃ z, z = F0 j := ⟨_, rfl⟩
          obtain ⟨t, et⟩ : ∃ z, z = dft n (rt n) F0 j := ⟨_, rfl⟩
          have cl1 : W3.cell? ⟨gl, j, none⟩ = some (.int .u64 ((z.val : Nat) : Int)) := by rw [ez]; exact (rd_cell RL.out hjn2).1
          have cb1 : W3.cell? ⟨gb, j, none⟩ = some (.int .u64 ((z.val : Nat) : Int)) := by rw [ez]; exact (rd_cell RB.out hjn2).1
          have ct1 : W3.cell? ⟨gt, j, none⟩ = some (.int .u64 ((t.val : Nat) : Int)) := by rw [et]; exact (rd_cell RT.out hjn2).1
          have htl : decide (18446744069414584321 ≤ ((t.val : Nat) : Int)) = false := decide_eq_false (Int.not_le.2 (Int.ofNat_lt.2 (show t.val < 18446744069414584321 from t.isLt)))
          clear ez et
          go_wp2
          go_quiet (fail)
          go_wp2
          go_roundw
          case rel => exact ⟨j + 1, _, by omega, by go_num, rfl⟩
          case measure => simp [RowKit.intOf]; omega
        · have hb : Below W3.heap.size W3 (W3.drewN q) := below_drewN (Below.refl _ _) q
          go_wp2_with fail
          refine (Root_ok n _ HR.out).mono ?_
          rintro e W4 ⟨rfl, k4, hw⟩
          have hb4 : Below W3.heap.size W3 W4 := by rw [hw]; exact below_drewN hb k4
          clear hw hb
          have hbx := hb4
          replace RH := Lib.hid (show Has [⟨w.heap.size, 60, 3, u3 b0 b1 b2⟩] W4 from RH.out.step hbx)
          replace HB := Lib.hid (HB.out.trans (hbx.mono HB.out.size))
          clear hbx hb4
          clear RL RT RB
          obtain ⟨r, er⟩ : ∃ r, r = rt n := ⟨_, rfl⟩
          rw [← er]
          have ER := Lib.hid er
          clear er
          have hmk := mk41 n (by omega)
          obtain ⟨m, em⟩ : ∃ m, m = 1 % n := ⟨_, rfl⟩
          have hmod : (1 : Int) % (n : Int) = (m : Int) := by rw [em]; rfl
          have hmn : m < n := by rw [em]; exact Nat.mod_lt _ hn1
          have EM := Lib.hid em
          clear em
          have hmi : (m : Int) < (n : Int) := by omega
          have ro := W4.rowIs_made (.int .u64 0) n 41
          have co := ro.cell hmn
          have fo := ro.frozen m
          have HRO := Lib.hid ro
          clear ro
          go_wp2_with fail
          have RO := Lib.hid (show Rd (W4.alloc (.cells ((madeCells #[.int .u64 0] n).setIfInBounds m (.int .u64 1)) 41)) _ n (fun i => wd (if i = m then 1 else 0)) from (rd_row (made_set W4 (.int .u64 0) (.int .u64 1) 41 hmn)).congr (fun i _ => one_wd m i))
          refine (good_line HR.out RO.out).line.mono ?_
          rintro e W6 ⟨⟨r3, rfl, m1⟩, hb⟩
          obtain ⟨gp, cp, rfl, hgp, _⟩ := m1.slice hn1
          have RP := Lib.hid ((rd_made m1).congr (g := fun i => wd (pw r (i * m))) (fun i hi => by rw [dft_lone n (rt n) hmn i, ← ER.out]))
          clear m1 co fo HRO RO hmk
          have hbx : Below W4.heap.size W4 W6 := Below.trans (show Below W4.heap.size W4 (W4.alloc (.cells ((madeCells #[.int .u64 0] n).setIfInBounds m (.int .u64 1)) 41)) from (by repeat (first | assumption | exact Below.refl _ _ | refine below_drewN ?_ _ | refine Below.drew ?_ | refine Below.alloc ?_ (by first | (simp; done) | (simp; omega) | omega) _ | refine Below.setCell ?_ (by first | (simp; done) | (simp; omega) | omega) _))) (hb.mono (by first | (simp; done) | (simp; omega)))
          replace RH := Lib.hid (show Has [⟨w.heap.size, 60, 3, u3 b0 b1 b2⟩] W6 from RH.out.step hbx)
          replace HB := Lib.hid (HB.out.trans (hbx.mono HB.out.size))
          clear hbx hb
          by_cases h1n : 1 < n
          · have c1 : W6.cell? ⟨gp, 1, none⟩ = some (.int .u64 ((r.val : Nat) : Int)) := (rd_cell RP.out h1n).1.trans (by show some (wd (pw r (1 * m))) = some (wd r); rw [EM.out, Nat.mod_eq_of_lt h1n, Nat.mul_one, pw_one])
            have h1i : (1 : Int) < (n : Int) := by omega
            go_wp2
            go_loop [26] (fun y => ∃ j : Nat, 1 ≤ j ∧ j ≤ n ∧ y = .int .i64 j) (fun y => n - (RowKit.intOf y).toNat)
            case atStart => exact ⟨1, Nat.le_refl _, hn1, rfl⟩
            case round =>
              obtain ⟨j, hj1, hj, rfl⟩ := hrel
              by_cases hjn3 : j < n
              · have hjl : (j : Int) < (n : Int) := by omega
                obtain ⟨z, ez⟩ : ∃ z, z = pw r (j * m) := ⟨_, rfl⟩
                have cz : W6.cell? ⟨gp, j, none⟩ = some (.int .u64 ((z.val : Nat) : Int)) := by rw [ez]; exact (rd_cell RP.out hjn3).1
                have hz : (((z.val : Nat) : Int) == 1) = false := by rw [Bool.eq_false_iff, Ne, wd_one, ez, EM.out, Nat.mod_eq_of_lt (by omega), Nat.mul_one, ER.out]; exact pw_ne (right_le HR.out).1 (right_le HR.out).2.1 (by omega) hjn3
                clear ez
                go_wp2
                go_round
                case rel => exact ⟨j + 1, by omega, by omega, by go_num⟩
                case measure => simp [RowKit.intOf]; omega
              · have e0 : W6.cell? ⟨w.heap.size, 0, none⟩ = some (.int .u8 b0) := (show World.rowIs W6 (w.heap.size) 60 (3) (u3 b0 b1 b2) from RH.out.one 0 (by simp)).cell (i := 0) (show 0 < 3 by decide)
                have e1 : W6.cell? ⟨w.heap.size, 1, none⟩ = some (.int .u8 b1) := (show World.rowIs W6 (w.heap.size) 60 (3) (u3 b0 b1 b2) from RH.out.one 0 (by simp)).cell (i := 1) (show 1 < 3 by decide)
                have e2 : W6.cell? ⟨w.heap.size, 2, none⟩ = some (.int .u8 b2) := (show World.rowIs W6 (w.heap.size) 60 (3) (u3 b0 b1 b2) from RH.out.one 0 (by simp)).cell (i := 2) (show 2 < 3 by decide)
                have lb : w.heap.size < W6.heap.size := (show World.rowIs W6 (w.heap.size) 60 (3) (u3 b0 b1 b2) from RH.out.one 0 (by simp)).lt
                go_wp2
                apply meet
                case a =>
                  intro KEY
                  have tok0 : True := trivial
                  have tok1 : True := trivial
                  have tok2 : True := trivial
                  go_region_held3 (fun w' => Below W6.heap.size W6 w' ∧ ∀ b o, b < W6.heap.size → w'.cell? ⟨b, o, none⟩ = W6.cell? ⟨b, o, none⟩) ((first | assumption | exact ⟨by assumption, by assumption⟩ | exact sb_of (by (repeat (first | assumption | exact And.left (by assumption) | exact Below.refl _ _ | refine below_drewN ?_ _ | refine Below.setCell ?_ (by first | (simp; done) | omega | (simp; omega)) _ | refine Below.alloc ?_ (by first | (simp; done) | omega | (simp; omega)) _ | refine Below.drew ?_))))) (first | (go_at_call 33; have _t := tok0; refine (lengths_any b0 6 _ hb0 (by decide) (by decide)).mono ?_; rintro e q0 ⟨rfl, hq0⟩; have hs0 := sb_call (Wc := W6) (by (repeat (first | assumption | exact And.left (by assumption) | exact Below.refl _ _ | refine below_drewN ?_ _ | refine Below.setCell ?_ (by first | (simp; done) | omega | (simp; omega)) _ | refine Below.alloc ?_ (by first | (simp; done) | omega | (simp; omega)) _ | refine Below.drew ?_))) hq0; have hl0 := hs0.1.size; have hk0 := hs0.2; obtain ⟨hc0, hf0⟩ := bcell hq0; have hz0 := hq0.size; (try simp at hz0); (try have z0_0 : W6.heap.size < q0.heap.size := (by omega)); clear tok0) | (go_at_call 33; have _t := tok1; refine (lengths_any b1 4 _ hb1 (by decide) (by decide)).mono ?_; rintro e q1 ⟨rfl, hq1⟩; have hs1 := sb_call (Wc := W6) (by (repeat (first | assumption | exact And.left (by assumption) | exact Below.refl _ _ | refine below_drewN ?_ _ | refine Below.setCell ?_ (by first | (simp; done) | omega | (simp; omega)) _ | refine Below.alloc ?_ (by first | (simp; done) | omega | (simp; omega)) _ | refine Below.drew ?_))) hq1; have hl1 := hs1.1.size; have hk1 := hs1.2; obtain ⟨hc1, hf1⟩ := bcell hq1; have hz1 := hq1.size; (try simp at hz1); (try have z1_0 : W6.heap.size < q1.heap.size := (by omega)); (try have z1_1 : q0.heap.size < q1.heap.size := (by omega)); clear tok1) | (go_at_call 33; have _t := tok2; refine (lengths_any b2 3 _ hb2 (by decide) (by decide)).mono ?_; rintro e q2 ⟨rfl, hq2⟩; have hs2 := sb_call (Wc := W6) (by (repeat (first | assumption | exact And.left (by assumption) | exact Below.refl _ _ | refine below_drewN ?_ _ | refine Below.setCell ?_ (by first | (simp; done) | omega | (simp; omega)) _ | refine Below.alloc ?_ (by first | (simp; done) | omega | (simp; omega)) _ | refine Below.drew ?_))) hq2; have hl2 := hs2.1.size; have hk2 := hs2.2; obtain ⟨hc2, hf2⟩ := bcell hq2; have hz2 := hq2.size; (try simp at hz2); (try have z2_0 : W6.heap.size < q2.heap.size := (by omega)); (try have z2_1 : q0.heap.size < q2.heap.size := (by omega)); (try have z2_2 : q1.heap.size < q2.heap.size := (by omega)); clear tok2))
                  · have hbz : Below W6.heap.size W6 (q2.alloc (.cells #[.int .i64 (lenOf b0 6 : Nat), .int .i64 (lenOf b1 4 : Nat), .int .i64 (lenOf b2 3 : Nat)] 23)) := (hs2.1.alloc hs2.1.size _)
                    refine then_abs (fun X => Has (⟨q2.heap.size, 23, 3, v3 (lenOf b0 6) (lenOf b1 4) (lenOf b2 3)⟩ :: [⟨w.heap.size, 60, 3, u3 b0 b1 b2⟩]) X ∧ Below w.heap.size w X) ⟨.cons (v3_row q2 _ _ _) (RH.out.step hbz), HB.out.trans (hbz.mono HB.out.size)⟩ ?_
                    generalize q2.heap.size = gm
                    revert gm
                    exact KEY.out
                  · have hbz : Below W6.heap.size W6 (((q2.setCell ⟨q1.heap.size, 0, none⟩ (.int .i64 (lenOf b0 6 : Nat))).setCell ⟨q1.heap.size, 1, none⟩ (.int .i64 (lenOf b1 4 : Nat))).setCell ⟨q1.heap.size, 2, none⟩ (.int .i64 (lenOf b2 3 : Nat))) := (((hs2.1.setCell (by first | exact Nat.le_refl _ | (simp only; omega)) _).setCell (by first | exact Nat.le_refl _ | (simp only; omega)) _).setCell (by first | exact Nat.le_refl _ | (simp only; omega)) _)
                    refine then_abs (fun X => Has (⟨q1.heap.size, 23, 3, v3 (lenOf b0 6) (lenOf b1 4) (lenOf b2 3)⟩ :: [⟨w.heap.size, 60, 3, u3 b0 b1 b2⟩]) X ∧ Below w.heap.size w X) ⟨.cons (v3_set ((v3_row q1 0 0 0).of_block (hq2.block _ (by first | omega | (simp; done) | (simp; omega))))) (RH.out.step hbz), HB.out.trans (hbz.mono HB.out.size)⟩ ?_
                    generalize q1.heap.size = gm
                    revert gm
                    exact KEY.out
                  · have hbz : Below W6.heap.size W6 (((q2.setCell ⟨q0.heap.size, 0, none⟩ (.int .i64 (lenOf b0 6 : Nat))).setCell ⟨q0.heap.size, 1, none⟩ (.int .i64 (lenOf b1 4 : Nat))).setCell ⟨q0.heap.size, 2, none⟩ (.int .i64 (lenOf b2 3 : Nat))) := (((hs2.1.setCell (by first | exact Nat.le_refl _ | (simp only; omega)) _).setCell (by first | exact Nat.le_refl _ | (simp only; omega)) _).setCell (by first | exact Nat.le_refl _ | (simp only; omega)) _)
                    refine then_abs (fun X => Has (⟨q0.heap.size, 23, 3, v3 (lenOf b0 6) (lenOf b1 4) (lenOf b2 3)⟩ :: [⟨w.heap.size, 60, 3, u3 b0 b1 b2⟩]) X ∧ Below w.heap.size w X) ⟨.cons (v3_set (((v3_row q0 0 0 0).of_block (hq1.block _ (by first | omega | (simp; done) | (simp; omega)))).of_block (hq2.block _ (by first | omega | (simp; done) | (simp; omega))))) (RH.out.step hbz), HB.out.trans (hbz.mono HB.out.size)⟩ ?_
                    generalize q0.heap.size = gm
                    revert gm
                    exact KEY.out
                  · have hbz : Below W6.heap.size W6 (((q2.setCell ⟨W6.heap.size, 0, none⟩ (.int .i64 (lenOf b0 6 : Nat))).setCell ⟨W6.heap.size, 1, none⟩ (.int .i64 (lenOf b1 4 : Nat))).setCell ⟨W6.heap.size, 2, none⟩ (.int .i64 (lenOf b2 3 : Nat))) := (((hs2.1.setCell (by first | exact Nat.le_refl _ | (simp only; omega)) _).setCell (by first | exact Nat.le_refl _ | (simp only; omega)) _).setCell (by first | exact Nat.le_refl _ | (simp only; omega)) _)
                    refine then_abs (fun X => Has (⟨W6.heap.size, 23, 3, v3 (lenOf b0 6) (lenOf b1 4) (lenOf b2 3)⟩ :: [⟨w.heap.size, 60, 3, u3 b0 b1 b2⟩]) X ∧ Below w.heap.size w X) ⟨.cons (v3_set ((((v3_row W6 0 0 0).of_block (hq0.block _ (by first | omega | (simp; done) | (simp; omega)))).of_block (hq1.block _ (by first | omega | (simp; done) | (simp; omega)))).of_block (hq2.block _ (by first | omega | (simp; done) | (simp; omega))))) (RH.out.step hbz), HB.out.trans (hbz.mono HB.out.size)⟩ ?_
                    generalize W6.heap.size = gm
                    revert gm
                    exact KEY.out
                case b =>
                  intro gm X6 hX
                  have RH6 := Lib.hid hX.1; have HB6 := Lib.hid hX.2
                  clear hX RH HB e0 e1 e2 lb RP
                  have RH := RH6; have HB := HB6
                  clear RH6 HB6
                  obtain ⟨m0, em0⟩ : ∃ m, m = lenOf b0 6 := ⟨_, rfl⟩
                  obtain ⟨m1, em1⟩ : ∃ m, m = lenOf b1 4 := ⟨_, rfl⟩
                  obtain ⟨m2, em2⟩ : ∃ m, m = lenOf b2 3 := ⟨_, rfl⟩
                  have r0 := lenOf_right b0 6 (by decide); have r1 := lenOf_right b1 4 (by decide); have r2 := lenOf_right b2 3 (by decide)
                  rw [← em0, ← em1, ← em2] at RH ⊢
                  rw [← em0] at r0; rw [← em1] at r1; rw [← em2] at r2
                  clear em0 em1 em2
                  have RR := Lib.hid (show rightB m0 = true ∧ rightB m1 = true ∧ rightB m2 = true from ⟨r0.1, r1.1, r2.1⟩)
                  have pL : m0 * m1 * m2 ≤ 72 := Nat.mul_le_mul (Nat.mul_le_mul r0.2.2 r1.2.2) r2.2.2
                  have p0 : 0 < m0 ∧ m0 ≤ 192 := by omega
                  have p1 : 0 < m1 ∧ m1 ≤ 192 := by omega
                  have p2 : 0 < m2 ∧ m2 ≤ 192 := by omega
                  clear r0 r1 r2
                  have C1 := Lib.hid (fun w' (hb : Below w.heap.size w w') => counts16_any m0 m1 m2 (RV.out w' hb) hlv HVB.out p0 p1 p2 (by omega))
                  have C2 := Lib.hid (fun w' (hb : Below w.heap.size w w') => counts16_any m0 m1 m2 (RW.out w' hb) hlw HWB.out p0 p1 p2 (by omega))
                  obtain ⟨L, eL⟩ : ∃ L, L = m0 * m1 * m2 := ⟨_, rfl⟩
                  rw [← eL] at C1 C2 pL
                  have EL := Lib.hid eL
                  clear eL
                  simp only [Exit.then]
                  have y0 : X6.cell? ⟨gm, 0, none⟩ = some (.int .i64 m0) := (show World.rowIs X6 (gm) 23 (3) (v3 m0 m1 m2) from RH.out.one 0 (by simp)).cell (i := 0) (show 0 < 3 by decide)
                  have y1 : X6.cell? ⟨gm, 1, none⟩ = some (.int .i64 m1) := (show World.rowIs X6 (gm) 23 (3) (v3 m0 m1 m2) from RH.out.one 0 (by simp)).cell (i := 1) (show 1 < 3 by decide)
                  have y2 : X6.cell? ⟨gm, 2, none⟩ = some (.int .i64 m2) := (show World.rowIs X6 (gm) 23 (3) (v3 m0 m1 m2) from RH.out.one 0 (by simp)).cell (i := 2) (show 2 < 3 by decide)
                  have ly : gm < X6.heap.size := (show World.rowIs X6 (gm) 23 (3) (v3 m0 m1 m2) from RH.out.one 0 (by simp)).lt
                  go_wp2_with fail
                  refine (C1.out _ HB.out).mono ?_
                  rintro e X7 ⟨⟨gx, rfl, hg, hr⟩, hb⟩
                  clear y0 y1 y2 ly
                  have hbx := hb
                  replace RH := Lib.hid (show Has [⟨gx, 3, L, fun i => .int .i64 (cf lv V i)⟩, ⟨gm, 23, 3, v3 m0 m1 m2⟩, ⟨w.heap.size, 60, 3, u3 b0 b1 b2⟩] X7 from .cons (hr) (RH.out.step hbx))
                  replace HB := Lib.hid (HB.out.trans (hbx.mono HB.out.size))
                  clear hbx hb
                  clear hg hr
                  have y0 : X7.cell? ⟨gm, 0, none⟩ = some (.int .i64 m0) := (show World.rowIs X7 (gm) 23 (3) (v3 m0 m1 m2) from RH.out.one 1 (by simp)).cell (i := 0) (show 0 < 3 by decide)
                  have y1 : X7.cell? ⟨gm, 1, none⟩ = some (.int .i64 m1) := (show World.rowIs X7 (gm) 23 (3) (v3 m0 m1 m2) from RH.out.one 1 (by simp)).cell (i := 1) (show 1 < 3 by decide)
                  have y2 : X7.cell? ⟨gm, 2, none⟩ = some (.int .i64 m2) := (show World.rowIs X7 (gm) 23 (3) (v3 m0 m1 m2) from RH.out.one 1 (by simp)).cell (i := 2) (show 2 < 3 by decide)
                  have ly : gm < X7.heap.size := (show World.rowIs X7 (gm) 23 (3) (v3 m0 m1 m2) from RH.out.one 1 (by simp)).lt
                  go_wp2_with fail
                  refine (C2.out _ (HB.out.trans (Below.mono (alloc_below _ _) HB.out.size))).mono ?_
                  rintro e X8 ⟨⟨gy, rfl, hg, hr⟩, hb⟩
                  clear y0 y1 y2 ly
                  have hbx : Below X7.heap.size X7 X8 := Below.trans (show Below X7.heap.size X7 (X7.alloc (.cells #[.int .i64 m0, .int .i64 m1, .int .i64 m2, .slice (some ⟨gx, 0, none⟩) L L] 26)) from (by repeat (first | assumption | exact Below.refl _ _ | refine below_drewN ?_ _ | refine Below.drew ?_ | refine Below.alloc ?_ (by first | (simp; done) | (simp; omega) | omega) _ | refine Below.setCell ?_ (by first | (simp; done) | (simp; omega) | omega) _))) (hb.mono (by first | (simp; done) | (simp; omega)))
                  replace RH := Lib.hid (show Has [⟨gy, 3, L, fun i => .int .i64 (cf lw W i)⟩, ⟨X7.heap.size, 26, 4, v4 m0 m1 m2 (.slice (some ⟨gx, 0, none⟩) L L)⟩, ⟨gx, 3, L, fun i => .int .i64 (cf lv V i)⟩, ⟨gm, 23, 3, v3 m0 m1 m2⟩, ⟨w.heap.size, 60, 3, u3 b0 b1 b2⟩] X8 from .cons (hr) (.cons ((v4_row X7 m0 m1 m2 _).of_block (hb.block _ (by first | (simp; done) | (simp; omega)))) (RH.out.step hbx)))
                  replace HB := Lib.hid (HB.out.trans (hbx.mono HB.out.size))
                  clear hbx hb
                  clear hg hr
                  obtain ⟨f, ef⟩ : ∃ f, f = cf lv V := ⟨_, rfl⟩
                  obtain ⟨g, eg⟩ : ∃ f, f = cf lw W := ⟨_, rfl⟩
                  rw [← ef, ← eg] at RH
                  have FB := Lib.hid (show ∀ i, -98304 ≤ f i ∧ f i ≤ 98304 by rw [ef]; exact cf_bound HVB.out)
                  have GB := Lib.hid (show ∀ i, -98304 ≤ g i ∧ g i ≤ 98304 by rw [eg]; exact cf_bound HWB.out)
                  clear ef eg C1 C2
                  have x0 : X8.cell? ⟨X7.heap.size, 0, none⟩ = some (.int .i64 m0) := (show World.rowIs X8 (X7.heap.size) 26 (4) (v4 m0 m1 m2 (.slice (some ⟨gx, 0, none⟩) L L)) from RH.out.one 1 (by simp)).cell (i := 0) (show 0 < 4 by first | decide | assumption | omega)
                  have x1 : X8.cell? ⟨X7.heap.size, 1, none⟩ = some (.int .i64 m1) := (show World.rowIs X8 (X7.heap.size) 26 (4) (v4 m0 m1 m2 (.slice (some ⟨gx, 0, none⟩) L L)) from RH.out.one 1 (by simp)).cell (i := 1) (show 1 < 4 by first | decide | assumption | omega)
                  have x2 : X8.cell? ⟨X7.heap.size, 2, none⟩ = some (.int .i64 m2) := (show World.rowIs X8 (X7.heap.size) 26 (4) (v4 m0 m1 m2 (.slice (some ⟨gx, 0, none⟩) L L)) from RH.out.one 1 (by simp)).cell (i := 2) (show 2 < 4 by first | decide | assumption | omega)
                  have x3 : X8.cell? ⟨X7.heap.size, 3, none⟩ = some (.slice (some ⟨gx, 0, none⟩) L L) := (show World.rowIs X8 (X7.heap.size) 26 (4) (v4 m0 m1 m2 (.slice (some ⟨gx, 0, none⟩) L L)) from RH.out.one 1 (by simp)).cell (i := 3) (show 3 < 4 by first | decide | assumption | omega)
                  have lx : X7.heap.size < X8.heap.size := (show World.rowIs X8 (X7.heap.size) 26 (4) (v4 m0 m1 m2 (.slice (some ⟨gx, 0, none⟩) L L)) from RH.out.one 1 (by simp)).lt
                  go_wp2_with fail
                  have hby : Below X8.heap.size X8 (X8.alloc (.cells #[.int .i64 m0, .int .i64 m1, .int .i64 m2, .slice (some ⟨gy, 0, none⟩) L L] 26)) := alloc_below _ _
                  refine (Fold_ok m0 m1 m2 L gx 0 L gy 0 L f g _ RR.out EL.out (by omega) (Nat.lt_of_lt_of_le (show World.rowIs X8 (gx) 3 (L) (fun i => .int .i64 (f i)) from RH.out.one 2 (by simp)).lt hby.size) (Nat.lt_of_lt_of_le (show World.rowIs X8 (gy) 3 (L) (fun i => .int .i64 (g i)) from RH.out.one 0 (by simp)).lt hby.size) (fun i hi => by rw [Nat.zero_add]; exact ((show World.rowIs X8 (gx) 3 (L) (fun i => .int .i64 (f i)) from RH.out.one 2 (by simp)).of_block (hby.block _ (show World.rowIs X8 (gx) 3 (L) (fun i => .int .i64 (f i)) from RH.out.one 2 (by simp)).lt)).cell hi) (fun i _ => by have := FB.out i; omega) (fun i hi => by rw [Nat.zero_add]; exact ((show World.rowIs X8 (gy) 3 (L) (fun i => .int .i64 (g i)) from RH.out.one 0 (by simp)).of_block (hby.block _ (show World.rowIs X8 (gy) 3 (L) (fun i => .int .i64 (g i)) from RH.out.one 0 (by simp)).lt)).cell hi) (fun i _ => by have := GB.out i; omega)).mono ?_
                  rintro e X9 ⟨⟨gf, rfl, hg, hr⟩, hb⟩
                  clear x0 x1 x2 x3 lx hby
                  have hbx : Below X8.heap.size X8 X9 := Below.trans (show Below X8.heap.size X8 (X8.alloc (.cells #[.int .i64 m0, .int .i64 m1, .int .i64 m2, .slice (some ⟨gy, 0, none⟩) L L] 26)) from (by repeat (first | assumption | exact Below.refl _ _ | refine below_drewN ?_ _ | refine Below.drew ?_ | refine Below.alloc ?_ (by first | (simp; done) | (simp; omega) | omega) _ | refine Below.setCell ?_ (by first | (simp; done) | (simp; omega) | omega) _))) (hb.mono (by first | (simp; done) | (simp; omega)))
                  replace RH := Lib.hid (show Has [⟨gf, 3, L, fun i => .int .i64 (foldZ m0 m1 m2 f g i)⟩, ⟨X8.heap.size, 26, 4, v4 m0 m1 m2 (.slice (some ⟨gy, 0, none⟩) L L)⟩, ⟨gy, 3, L, fun i => .int .i64 (g i)⟩, ⟨X7.heap.size, 26, 4, v4 m0 m1 m2 (.slice (some ⟨gx, 0, none⟩) L L)⟩, ⟨gx, 3, L, fun i => .int .i64 (f i)⟩, ⟨gm, 23, 3, v3 m0 m1 m2⟩, ⟨w.heap.size, 60, 3, u3 b0 b1 b2⟩] X9 from .cons (hr) (.cons ((v4_row X8 m0 m1 m2 _).of_block (hb.block _ (by first | (simp; done) | (simp; omega)))) (RH.out.step hbx)))
                  replace HB := Lib.hid (HB.out.trans (hbx.mono HB.out.size))
                  clear hbx hb
                  clear hg hr
                  have x0 : X9.cell? ⟨X7.heap.size, 0, none⟩ = some (.int .i64 m0) := (show World.rowIs X9 (X7.heap.size) 26 (4) (v4 m0 m1 m2 (.slice (some ⟨gx, 0, none⟩) L L)) from RH.out.one 3 (by simp)).cell (i := 0) (show 0 < 4 by first | decide | assumption | omega)
                  have x1 : X9.cell? ⟨X7.heap.size, 1, none⟩ = some (.int .i64 m1) := (show World.rowIs X9 (X7.heap.size) 26 (4) (v4 m0 m1 m2 (.slice (some ⟨gx, 0, none⟩) L L)) from RH.out.one 3 (by simp)).cell (i := 1) (show 1 < 4 by first | decide | assumption | omega)
                  have x2 : X9.cell? ⟨X7.heap.size, 2, none⟩ = some (.int .i64 m2) := (show World.rowIs X9 (X7.heap.size) 26 (4) (v4 m0 m1 m2 (.slice (some ⟨gx, 0, none⟩) L L)) from RH.out.one 3 (by simp)).cell (i := 2) (show 2 < 4 by first | decide | assumption | omega)
                  have x3 : X9.cell? ⟨X7.heap.size, 3, none⟩ = some (.slice (some ⟨gx, 0, none⟩) L L) := (show World.rowIs X9 (X7.heap.size) 26 (4) (v4 m0 m1 m2 (.slice (some ⟨gx, 0, none⟩) L L)) from RH.out.one 3 (by simp)).cell (i := 3) (show 3 < 4 by first | decide | assumption | omega)
                  have lx : X7.heap.size < X9.heap.size := (show World.rowIs X9 (X7.heap.size) 26 (4) (v4 m0 m1 m2 (.slice (some ⟨gx, 0, none⟩) L L)) from RH.out.one 3 (by simp)).lt
                  have y0 : X9.cell? ⟨X8.heap.size, 0, none⟩ = some (.int .i64 m0) := (show World.rowIs X9 (X8.heap.size) 26 (4) (v4 m0 m1 m2 (.slice (some ⟨gy, 0, none⟩) L L)) from RH.out.one 1 (by simp)).cell (i := 0) (show 0 < 4 by first | decide | assumption | omega)
                  have y1 : X9.cell? ⟨X8.heap.size, 1, none⟩ = some (.int .i64 m1) := (show World.rowIs X9 (X8.heap.size) 26 (4) (v4 m0 m1 m2 (.slice (some ⟨gy, 0, none⟩) L L)) from RH.out.one 1 (by simp)).cell (i := 1) (show 1 < 4 by first | decide | assumption | omega)
                  have y2 : X9.cell? ⟨X8.heap.size, 2, none⟩ = some (.int .i64 m2) := (show World.rowIs X9 (X8.heap.size) 26 (4) (v4 m0 m1 m2 (.slice (some ⟨gy, 0, none⟩) L L)) from RH.out.one 1 (by simp)).cell (i := 2) (show 2 < 4 by first | decide | assumption | omega)
                  have y3 : X9.cell? ⟨X8.heap.size, 3, none⟩ = some (.slice (some ⟨gy, 0, none⟩) L L) := (show World.rowIs X9 (X8.heap.size) 26 (4) (v4 m0 m1 m2 (.slice (some ⟨gy, 0, none⟩) L L)) from RH.out.one 1 (by simp)).cell (i := 3) (show 3 < 4 by first | decide | assumption | omega)
                  have ly : X8.heap.size < X9.heap.size := (show World.rowIs X9 (X8.heap.size) 26 (4) (v4 m0 m1 m2 (.slice (some ⟨gy, 0, none⟩) L L)) from RH.out.one 1 (by simp)).lt
                  go_wp2_with fail
                  have hby : Below X9.heap.size X9 (X9.alloc (.cells #[.int .i64 m0, .int .i64 m1, .int .i64 m2, .slice (some ⟨gf, 0, none⟩) L L] 26)) := alloc_below _ _
                  refine (Fold_ok m0 m1 m2 L gy 0 L gx 0 L g f _ RR.out EL.out (by omega) (Nat.lt_of_lt_of_le (show World.rowIs X9 (gy) 3 (L) (fun i => .int .i64 (g i)) from RH.out.one 2 (by simp)).lt hby.size) (Nat.lt_of_lt_of_le (show World.rowIs X9 (gx) 3 (L) (fun i => .int .i64 (f i)) from RH.out.one 4 (by simp)).lt hby.size) (fun i hi => by rw [Nat.zero_add]; exact ((show World.rowIs X9 (gy) 3 (L) (fun i => .int .i64 (g i)) from RH.out.one 2 (by simp)).of_block (hby.block _ (show World.rowIs X9 (gy) 3 (L) (fun i => .int .i64 (g i)) from RH.out.one 2 (by simp)).lt)).cell hi) (fun i _ => by have := GB.out i; omega) (fun i hi => by rw [Nat.zero_add]; exact ((show World.rowIs X9 (gx) 3 (L) (fun i => .int .i64 (f i)) from RH.out.one 4 (by simp)).of_block (hby.block _ (show World.rowIs X9 (gx) 3 (L) (fun i => .int .i64 (f i)) from RH.out.one 4 (by simp)).lt)).cell hi) (fun i _ => by have := FB.out i; omega)).mono ?_
                  rintro e Y0 ⟨⟨gh, rfl, hg, hr⟩, hb⟩
                  clear x0 x1 x2 x3 lx y0 y1 y2 y3 ly hby
                  have hbx : Below X9.heap.size X9 Y0 := Below.trans (show Below X9.heap.size X9 (X9.alloc (.cells #[.int .i64 m0, .int .i64 m1, .int .i64 m2, .slice (some ⟨gf, 0, none⟩) L L] 26)) from (by repeat (first | assumption | exact Below.refl _ _ | refine below_drewN ?_ _ | refine Below.drew ?_ | refine Below.alloc ?_ (by first | (simp; done) | (simp; omega) | omega) _ | refine Below.setCell ?_ (by first | (simp; done) | (simp; omega) | omega) _))) (hb.mono (by first | (simp; done) | (simp; omega)))
                  replace RH := Lib.hid (show Has [⟨gh, 3, L, fun i => .int .i64 (foldZ m0 m1 m2 f g i)⟩, ⟨X9.heap.size, 26, 4, v4 m0 m1 m2 (.slice (some ⟨gf, 0, none⟩) L L)⟩, ⟨gf, 3, L, fun i => .int .i64 (foldZ m0 m1 m2 f g i)⟩, ⟨X8.heap.size, 26, 4, v4 m0 m1 m2 (.slice (some ⟨gy, 0, none⟩) L L)⟩, ⟨gy, 3, L, fun i => .int .i64 (g i)⟩, ⟨X7.heap.size, 26, 4, v4 m0 m1 m2 (.slice (some ⟨gx, 0, none⟩) L L)⟩, ⟨gx, 3, L, fun i => .int .i64 (f i)⟩, ⟨gm, 23, 3, v3 m0 m1 m2⟩, ⟨w.heap.size, 60, 3, u3 b0 b1 b2⟩] Y0 from .cons (hr.congr (fun i hi => congrArg _ (fold_comm (right_le RR.out.1).1 (right_le RR.out.2.1).1 (right_le RR.out.2.2).1 g f (by rw [← EL.out]; exact hi)))) (.cons ((v4_row X9 m0 m1 m2 _).of_block (hb.block _ (by first | (simp; done) | (simp; omega)))) (RH.out.step hbx)))
                  replace HB := Lib.hid (HB.out.trans (hbx.mono HB.out.size))
                  clear hbx hb
                  clear hg hr
                  have x0 : Y0.cell? ⟨X7.heap.size, 0, none⟩ = some (.int .i64 m0) := (show World.rowIs Y0 (X7.heap.size) 26 (4) (v4 m0 m1 m2 (.slice (some ⟨gx, 0, none⟩) L L)) from RH.out.one 5 (by simp)).cell (i := 0) (show 0 < 4 by first | decide | assumption | omega)
                  have x1 : Y0.cell? ⟨X7.heap.size, 1, none⟩ = some (.int .i64 m1) := (show World.rowIs Y0 (X7.heap.size) 26 (4) (v4 m0 m1 m2 (.slice (some ⟨gx, 0, none⟩) L L)) from RH.out.one 5 (by simp)).cell (i := 1) (show 1 < 4 by first | decide | assumption | omega)
                  have x2 : Y0.cell? ⟨X7.heap.size, 2, none⟩ = some (.int .i64 m2) := (show World.rowIs Y0 (X7.heap.size) 26 (4) (v4 m0 m1 m2 (.slice (some ⟨gx, 0, none⟩) L L)) from RH.out.one 5 (by simp)).cell (i := 2) (show 2 < 4 by first | decide | assumption | omega)
                  have x3 : Y0.cell? ⟨X7.heap.size, 3, none⟩ = some (.slice (some ⟨gx, 0, none⟩) L L) := (show World.rowIs Y0 (X7.heap.size) 26 (4) (v4 m0 m1 m2 (.slice (some ⟨gx, 0, none⟩) L L)) from RH.out.one 5 (by simp)).cell (i := 3) (show 3 < 4 by first | decide | assumption | omega)
                  have lx : X7.heap.size < Y0.heap.size := (show World.rowIs Y0 (X7.heap.size) 26 (4) (v4 m0 m1 m2 (.slice (some ⟨gx, 0, none⟩) L L)) from RH.out.one 5 (by simp)).lt
                  have z0 : Y0.cell? ⟨X9.heap.size, 0, none⟩ = some (.int .i64 m0) := (show World.rowIs Y0 (X9.heap.size) 26 (4) (v4 m0 m1 m2 (.slice (some ⟨gf, 0, none⟩) L L)) from RH.out.one 1 (by simp)).cell (i := 0) (show 0 < 4 by first | decide | assumption | omega)
                  have z1 : Y0.cell? ⟨X9.heap.size, 1, none⟩ = some (.int .i64 m1) := (show World.rowIs Y0 (X9.heap.size) 26 (4) (v4 m0 m1 m2 (.slice (some ⟨gf, 0, none⟩) L L)) from RH.out.one 1 (by simp)).cell (i := 1) (show 1 < 4 by first | decide | assumption | omega)
                  have z2 : Y0.cell? ⟨X9.heap.size, 2, none⟩ = some (.int .i64 m2) := (show World.rowIs Y0 (X9.heap.size) 26 (4) (v4 m0 m1 m2 (.slice (some ⟨gf, 0, none⟩) L L)) from RH.out.one 1 (by simp)).cell (i := 2) (show 2 < 4 by first | decide | assumption | omega)
                  have z3 : Y0.cell? ⟨X9.heap.size, 3, none⟩ = some (.slice (some ⟨gf, 0, none⟩) L L) := (show World.rowIs Y0 (X9.heap.size) 26 (4) (v4 m0 m1 m2 (.slice (some ⟨gf, 0, none⟩) L L)) from RH.out.one 1 (by simp)).cell (i := 3) (show 3 < 4 by first | decide | assumption | omega)
                  have lz : X9.heap.size < Y0.heap.size := (show World.rowIs Y0 (X9.heap.size) 26 (4) (v4 m0 m1 m2 (.slice (some ⟨gf, 0, none⟩) L L)) from RH.out.one 1 (by simp)).lt
                  have y0 : Y0.cell? ⟨gm, 0, none⟩ = some (.int .i64 m0) := (show World.rowIs Y0 (gm) 23 (3) (v3 m0 m1 m2) from RH.out.one 7 (by simp)).cell (i := 0) (show 0 < 3 by decide)
                  have y1 : Y0.cell? ⟨gm, 1, none⟩ = some (.int .i64 m1) := (show World.rowIs Y0 (gm) 23 (3) (v3 m0 m1 m2) from RH.out.one 7 (by simp)).cell (i := 1) (show 1 < 3 by decide)
                  have y2 : Y0.cell? ⟨gm, 2, none⟩ = some (.int .i64 m2) := (show World.rowIs Y0 (gm) 23 (3) (v3 m0 m1 m2) from RH.out.one 7 (by simp)).cell (i := 2) (show 2 < 3 by decide)
                  have ly : gm < Y0.heap.size := (show World.rowIs Y0 (gm) 23 (3) (v3 m0 m1 m2) from RH.out.one 7 (by simp)).lt
                  go_wp2
                  refine wp_abs (fun X => (Has [⟨Y0.heap.size, 26, 4, v4 m0 m1 m2 (.slice (some ⟨gh, 0, none⟩) L L)⟩, ⟨gh, 3, L, fun i => .int .i64 (foldZ m0 m1 m2 f g i)⟩, ⟨X9.heap.size, 26, 4, v4 m0 m1 m2 (.slice (some ⟨gf, 0, none⟩) L L)⟩, ⟨gf, 3, L, fun i => .int .i64 (foldZ m0 m1 m2 f g i)⟩, ⟨X8.heap.size, 26, 4, v4 m0 m1 m2 (.slice (some ⟨gy, 0, none⟩) L L)⟩, ⟨gy, 3, L, fun i => .int .i64 (g i)⟩, ⟨X7.heap.size, 26, 4, v4 m0 m1 m2 (.slice (some ⟨gx, 0, none⟩) L L)⟩, ⟨gx, 3, L, fun i => .int .i64 (f i)⟩, ⟨gm, 23, 3, v3 m0 m1 m2⟩, ⟨w.heap.size, 60, 3, u3 b0 b1 b2⟩] X) ∧ Below w.heap.size w X) ⟨.cons (v4_row Y0 m0 m1 m2 _) (RH.out.step (alloc_below _ _)), HB.out.trans (Below.mono (alloc_below Y0 (.cells #[.int .i64 m0, .int .i64 m1, .int .i64 m2, .slice (some ⟨gh, 0, none⟩) L L] 26)) HB.out.size)⟩ ?_
                  intro Y1 hX
                  have RH1 := Lib.hid hX.1; have HB1 := Lib.hid hX.2
                  clear hX RH HB x0 x1 x2 x3 lx z0 z1 z2 z3 lz y0 y1 y2 ly
                  go_loopw [34] (fun y wr => ∃ j : Nat, j ≤ L ∧ y = .int .i64 j ∧ (Has [⟨Y0.heap.size, 26, 4, v4 m0 m1 m2 (.slice (some ⟨gh, 0, none⟩) L L)⟩, ⟨gh, 3, L, fun i => .int .i64 (foldZ m0 m1 m2 f g i)⟩, ⟨X9.heap.size, 26, 4, v4 m0 m1 m2 (.slice (some ⟨gf, 0, none⟩) L L)⟩, ⟨gf, 3, L, fun i => .int .i64 (foldZ m0 m1 m2 f g i)⟩, ⟨X8.heap.size, 26, 4, v4 m0 m1 m2 (.slice (some ⟨gy, 0, none⟩) L L)⟩, ⟨gy, 3, L, fun i => .int .i64 (g i)⟩, ⟨X7.heap.size, 26, 4, v4 m0 m1 m2 (.slice (some ⟨gx, 0, none⟩) L L)⟩, ⟨gx, 3, L, fun i => .int .i64 (f i)⟩, ⟨gm, 23, 3, v3 m0 m1 m2⟩, ⟨w.heap.size, 60, 3, u3 b0 b1 b2⟩] wr) ∧ Below w.heap.size w wr) (fun y _ => L - (RowKit.intOf y).toNat)
                  case atStart => exact ⟨0, Nat.zero_le _, rfl, RH1.out, HB1.out⟩
                  case round =>
                    obtain ⟨j, hj, rfl, hrh, hhb⟩ := hrel
                    have RH := Lib.hid hrh; have HB := Lib.hid hhb
                    clear hrh hhb RH1 HB1
                    have z3 : wr.cell? ⟨X9.heap.size, 3, none⟩ = some (.slice (some ⟨gf, 0, none⟩) L L) := (show World.rowIs wr (X9.heap.size) 26 (4) (v4 m0 m1 m2 (.slice (some ⟨gf, 0, none⟩) L L)) from RH.out.one 2 (by simp)).cell (i := 3) (show 3 < 4 by first | decide | assumption | omega)
                    have lz : X9.heap.size < wr.heap.size := (show World.rowIs wr (X9.heap.size) 26 (4) (v4 m0 m1 m2 (.slice (some ⟨gf, 0, none⟩) L L)) from RH.out.one 2 (by simp)).lt
                    by_cases hjL : j < L
                    · have hjl : (j : Int) < (L : Int) := by omega
                      have x0 : wr.cell? ⟨X7.heap.size, 0, none⟩ = some (.int .i64 m0) := (show World.rowIs wr (X7.heap.size) 26 (4) (v4 m0 m1 m2 (.slice (some ⟨gx, 0, none⟩) L L)) from RH.out.one 6 (by simp)).cell (i := 0) (show 0 < 4 by first | decide | assumption | omega)
                      have x1 : wr.cell? ⟨X7.heap.size, 1, none⟩ = some (.int .i64 m1) := (show World.rowIs wr (X7.heap.size) 26 (4) (v4 m0 m1 m2 (.slice (some ⟨gx, 0, none⟩) L L)) from RH.out.one 6 (by simp)).cell (i := 1) (show 1 < 4 by first | decide | assumption | omega)
                      have x2 : wr.cell? ⟨X7.heap.size, 2, none⟩ = some (.int .i64 m2) := (show World.rowIs wr (X7.heap.size) 26 (4) (v4 m0 m1 m2 (.slice (some ⟨gx, 0, none⟩) L L)) from RH.out.one 6 (by simp)).cell (i := 2) (show 2 < 4 by first | decide | assumption | omega)
                      have x3 : wr.cell? ⟨X7.heap.size, 3, none⟩ = some (.slice (some ⟨gx, 0, none⟩) L L) := (show World.rowIs wr (X7.heap.size) 26 (4) (v4 m0 m1 m2 (.slice (some ⟨gx, 0, none⟩) L L)) from RH.out.one 6 (by simp)).cell (i := 3) (show 3 < 4 by first | decide | assumption | omega)
                      have lx : X7.heap.size < wr.heap.size := (show World.rowIs wr (X7.heap.size) 26 (4) (v4 m0 m1 m2 (.slice (some ⟨gx, 0, none⟩) L L)) from RH.out.one 6 (by simp)).lt
                      have y0 : wr.cell? ⟨X8.heap.size, 0, none⟩ = some (.int .i64 m0) := (show World.rowIs wr (X8.heap.size) 26 (4) (v4 m0 m1 m2 (.slice (some ⟨gy, 0, none⟩) L L)) from RH.out.one 4 (by simp)).cell (i := 0) (show 0 < 4 by first | decide | assumption | omega)
                      have y1 : wr.cell? ⟨X8.heap.size, 1, none⟩ = some (.int .i64 m1) := (show World.rowIs wr (X8.heap.size) 26 (4) (v4 m0 m1 m2 (.slice (some ⟨gy, 0, none⟩) L L)) from RH.out.one 4 (by simp)).cell (i := 1) (show 1 < 4 by first | decide | assumption | omega)
                      have y2 : wr.cell? ⟨X8.heap.size, 2, none⟩ = some (.int .i64 m2) := (show World.rowIs wr (X8.heap.size) 26 (4) (v4 m0 m1 m2 (.slice (some ⟨gy, 0, none⟩) L L)) from RH.out.one 4 (by simp)).cell (i := 2) (show 2 < 4 by first | decide | assumption | omega)
                      have y3 : wr.cell? ⟨X8.heap.size, 3, none⟩ = some (.slice (some ⟨gy, 0, none⟩) L L) := (show World.rowIs wr (X8.heap.size) 26 (4) (v4 m0 m1 m2 (.slice (some ⟨gy, 0, none⟩) L L)) from RH.out.one 4 (by simp)).cell (i := 3) (show 3 < 4 by first | decide | assumption | omega)
                      have ly : X8.heap.size < wr.heap.size := (show World.rowIs wr (X8.heap.size) 26 (4) (v4 m0 m1 m2 (.slice (some ⟨gy, 0, none⟩) L L)) from RH.out.one 4 (by simp)).lt
                      have h3 : wr.cell? ⟨Y0.heap.size, 3, none⟩ = some (.slice (some ⟨gh, 0, none⟩) L L) := (show World.rowIs wr (Y0.heap.size) 26 (4) (v4 m0 m1 m2 (.slice (some ⟨gh, 0, none⟩) L L)) from RH.out.one 0 (by simp)).cell (i := 3) (show 3 < 4 by first | decide | assumption | omega)
                      have lh : Y0.heap.size < wr.heap.size := (show World.rowIs wr (Y0.heap.size) 26 (4) (v4 m0 m1 m2 (.slice (some ⟨gh, 0, none⟩) L L)) from RH.out.one 0 (by simp)).lt
                      have lf : gf < wr.heap.size := (show World.rowIs wr (gf) 3 (L) (fun i => .int .i64 (foldZ m0 m1 m2 f g i)) from RH.out.one 3 (by simp)).lt
                      have lg : gh < wr.heap.size := (show World.rowIs wr (gh) 3 (L) (fun i => .int .i64 (foldZ m0 m1 m2 f g i)) from RH.out.one 1 (by simp)).lt
                      obtain ⟨z, ez⟩ : ∃ z, z = foldZ m0 m1 m2 f g j := ⟨_, rfl⟩
                      have cf1 : wr.cell? ⟨gf, j, none⟩ = some (.int .i64 z) := by rw [ez]; exact (show World.rowIs wr (gf) 3 (L) (fun i => .int .i64 (foldZ m0 m1 m2 f g i)) from RH.out.one 3 (by simp)).cell hjL
                      have ch1 : wr.cell? ⟨gh, j, none⟩ = some (.int .i64 z) := by rw [ez]; exact (show World.rowIs wr (gh) 3 (L) (fun i => .int .i64 (foldZ m0 m1 m2 f g i)) from RH.out.one 1 (by simp)).cell hjL
                      have HFD := Lib.hid (fun w' (hb : Below wr.heap.size wr w') => ez ▸ folded_any m0 m1 m2 L gx 0 L gy 0 L j f g w' RR.out EL.out (by omega) hjL (Nat.lt_of_lt_of_le (show World.rowIs wr (gx) 3 (L) (fun i => .int .i64 (f i)) from RH.out.one 7 (by simp)).lt hb.size) (Nat.lt_of_lt_of_le (show World.rowIs wr (gy) 3 (L) (fun i => .int .i64 (g i)) from RH.out.one 5 (by simp)).lt hb.size) (fun i hi => by rw [Nat.zero_add]; exact ((show World.rowIs wr (gx) 3 (L) (fun i => .int .i64 (f i)) from RH.out.one 7 (by simp)).of_block (hb.block _ (show World.rowIs wr (gx) 3 (L) (fun i => .int .i64 (f i)) from RH.out.one 7 (by simp)).lt)).cell hi) FB.out (fun i hi => by rw [Nat.zero_add]; exact ((show World.rowIs wr (gy) 3 (L) (fun i => .int .i64 (g i)) from RH.out.one 5 (by simp)).of_block (hb.block _ (show World.rowIs wr (gy) 3 (L) (fun i => .int .i64 (g i)) from RH.out.one 5 (by simp)).lt)).cell hi) GB.out)
                      clear ez
                      go_wp2
                      refine region_all (by kernel_rfl) (by kernel_rfl) ?_
                      repeat (go_big_quiet_step ((go_at_call 35; with_reducible exact held_of _ (Nat.le_refl _) (HFD.out _ (BelowW.below _)))))
                      refine wpQuiet_nil ?_
                      rintro w7 ⟨⟨w0, hb⟩, rfl⟩
                      clear x0 x1 x2 x3 lx y0 y1 y2 y3 ly z3 lz h3 lh lf lg cf1 ch1 HFD
                      have hbx := hb
                      replace RH := Lib.hid (show Has [⟨Y0.heap.size, 26, 4, v4 m0 m1 m2 (.slice (some ⟨gh, 0, none⟩) L L)⟩, ⟨gh, 3, L, fun i => .int .i64 (foldZ m0 m1 m2 f g i)⟩, ⟨X9.heap.size, 26, 4, v4 m0 m1 m2 (.slice (some ⟨gf, 0, none⟩) L L)⟩, ⟨gf, 3, L, fun i => .int .i64 (foldZ m0 m1 m2 f g i)⟩, ⟨X8.heap.size, 26, 4, v4 m0 m1 m2 (.slice (some ⟨gy, 0, none⟩) L L)⟩, ⟨gy, 3, L, fun i => .int .i64 (g i)⟩, ⟨X7.heap.size, 26, 4, v4 m0 m1 m2 (.slice (some ⟨gx, 0, none⟩) L L)⟩, ⟨gx, 3, L, fun i => .int .i64 (f i)⟩, ⟨gm, 23, 3, v3 m0 m1 m2⟩, ⟨w.heap.size, 60, 3, u3 b0 b1 b2⟩] w7 from RH.out.step hbx)
                      replace HB := Lib.hid (HB.out.trans (hbx.mono HB.out.size))
                      clear hbx hb
                      go_wp2
                      go_roundw
                      case rel => exact ⟨j + 1, by omega, by go_num, RH.out, HB.out⟩
                      case measure => simp [RowKit.intOf]; omega
                    · go_wp2
                      go_ret
                      exact ⟨rfl, HB.out⟩
          · have h1i : ¬ (1 : Int) < (n : Int) := by omega
            go_wp2
            go_loop [26] (fun y => ∃ j : Nat, 1 ≤ j ∧ j ≤ n ∧ y = .int .i64 j) (fun y => n - (RowKit.intOf y).toNat)
            case atStart => exact ⟨1, Nat.le_refl _, hn1, rfl⟩
            case round =>
              obtain ⟨j, hj1, hj, rfl⟩ := hrel
              by_cases hjn3 : j < n
              · have hjl : (j : Int) < (n : Int) := by omega
                obtain ⟨z, ez⟩ : ∃ z, z = pw r (j * m) := ⟨_, rfl⟩
                have cz : W6.cell? ⟨gp, j, none⟩ = some (.int .u64 ((z.val : Nat) : Int)) := by rw [ez]; exact (rd_cell RP.out hjn3).1
                have hz : (((z.val : Nat) : Int) == 1) = false := by rw [Bool.eq_false_iff, Ne, wd_one, ez, EM.out, Nat.mod_eq_of_lt (by omega), Nat.mul_one, ER.out]; exact pw_ne (right_le HR.out).1 (right_le HR.out).2.1 (by omega) hjn3
                clear ez
                go_wp2
                go_round
                case rel => exact ⟨j + 1, by omega, by omega, by go_num⟩
                case measure => simp [RowKit.intOf]; omega
              · have e0 : W6.cell? ⟨w.heap.size, 0, none⟩ = some (.int .u8 b0) := (show World.rowIs W6 (w.heap.size) 60 (3) (u3 b0 b1 b2) from RH.out.one 0 (by simp)).cell (i := 0) (show 0 < 3 by decide)
                have e1 : W6.cell? ⟨w.heap.size, 1, none⟩ = some (.int .u8 b1) := (show World.rowIs W6 (w.heap.size) 60 (3) (u3 b0 b1 b2) from RH.out.one 0 (by simp)).cell (i := 1) (show 1 < 3 by decide)
                have e2 : W6.cell? ⟨w.heap.size, 2, none⟩ = some (.int .u8 b2) := (show World.rowIs W6 (w.heap.size) 60 (3) (u3 b0 b1 b2) from RH.out.one 0 (by simp)).cell (i := 2) (show 2 < 3 by decide)
                have lb : w.heap.size < W6.heap.size := (show World.rowIs W6 (w.heap.size) 60 (3) (u3 b0 b1 b2) from RH.out.one 0 (by simp)).lt
                go_wp2
                apply meet
                case a =>
                  intro KEY
                  have tok0 : True := trivial
                  have tok1 : True := trivial
                  have tok2 : True := trivial
                  go_region_held3 (fun w' => Below W6.heap.size W6 w' ∧ ∀ b o, b < W6.heap.size → w'.cell? ⟨b, o, none⟩ = W6.cell? ⟨b, o, none⟩) ((first | assumption | exact ⟨by assumption, by assumption⟩ | exact sb_of (by (repeat (first | assumption | exact And.left (by assumption) | exact Below.refl _ _ | refine below_drewN ?_ _ | refine Below.setCell ?_ (by first | (simp; done) | omega | (simp; omega)) _ | refine Below.alloc ?_ (by first | (simp; done) | omega | (simp; omega)) _ | refine Below.drew ?_))))) (first | (go_at_call 33; have _t := tok0; refine (lengths_any b0 6 _ hb0 (by decide) (by decide)).mono ?_; rintro e q0 ⟨rfl, hq0⟩; have hs0 := sb_call (Wc := W6) (by (repeat (first | assumption | exact And.left (by assumption) | exact Below.refl _ _ | refine below_drewN ?_ _ | refine Below.setCell ?_ (by first | (simp; done) | omega | (simp; omega)) _ | refine Below.alloc ?_ (by first | (simp; done) | omega | (simp; omega)) _ | refine Below.drew ?_))) hq0; have hl0 := hs0.1.size; have hk0 := hs0.2; obtain ⟨hc0, hf0⟩ := bcell hq0; have hz0 := hq0.size; (try simp at hz0); (try have z0_0 : W6.heap.size < q0.heap.size := (by omega)); clear tok0) | (go_at_call 33; have _t := tok1; refine (lengths_any b1 4 _ hb1 (by decide) (by decide)).mono ?_; rintro e q1 ⟨rfl, hq1⟩; have hs1 := sb_call (Wc := W6) (by (repeat (first | assumption | exact And.left (by assumption) | exact Below.refl _ _ | refine below_drewN ?_ _ | refine Below.setCell ?_ (by first | (simp; done) | omega | (simp; omega)) _ | refine Below.alloc ?_ (by first | (simp; done) | omega | (simp; omega)) _ | refine Below.drew ?_))) hq1; have hl1 := hs1.1.size; have hk1 := hs1.2; obtain ⟨hc1, hf1⟩ := bcell hq1; have hz1 := hq1.size; (try simp at hz1); (try have z1_0 : W6.heap.size < q1.heap.size := (by omega)); (try have z1_1 : q0.heap.size < q1.heap.size := (by omega)); clear tok1) | (go_at_call 33; have _t := tok2; refine (lengths_any b2 3 _ hb2 (by decide) (by decide)).mono ?_; rintro e q2 ⟨rfl, hq2⟩; have hs2 := sb_call (Wc := W6) (by (repeat (first | assumption | exact And.left (by assumption) | exact Below.refl _ _ | refine below_drewN ?_ _ | refine Below.setCell ?_ (by first | (simp; done) | omega | (simp; omega)) _ | refine Below.alloc ?_ (by first | (simp; done) | omega | (simp; omega)) _ | refine Below.drew ?_))) hq2; have hl2 := hs2.1.size; have hk2 := hs2.2; obtain ⟨hc2, hf2⟩ := bcell hq2; have hz2 := hq2.size; (try simp at hz2); (try have z2_0 : W6.heap.size < q2.heap.size := (by omega)); (try have z2_1 : q0.heap.size < q2.heap.size := (by omega)); (try have z2_2 : q1.heap.size < q2.heap.size := (by omega)); clear tok2))
                  · have hbz : Below W6.heap.size W6 (q2.alloc (.cells #[.int .i64 (lenOf b0 6 : Nat), .int .i64 (lenOf b1 4 : Nat), .int .i64 (lenOf b2 3 : Nat)] 23)) := (hs2.1.alloc hs2.1.size _)
                    refine then_abs (fun X => Has (⟨q2.heap.size, 23, 3, v3 (lenOf b0 6) (lenOf b1 4) (lenOf b2 3)⟩ :: [⟨w.heap.size, 60, 3, u3 b0 b1 b2⟩]) X ∧ Below w.heap.size w X) ⟨.cons (v3_row q2 _ _ _) (RH.out.step hbz), HB.out.trans (hbz.mono HB.out.size)⟩ ?_
                    generalize q2.heap.size = gm
                    revert gm
                    exact KEY.out
                  · have hbz : Below W6.heap.size W6 (((q2.setCell ⟨q1.heap.size, 0, none⟩ (.int .i64 (lenOf b0 6 : Nat))).setCell ⟨q1.heap.size, 1, none⟩ (.int .i64 (lenOf b1 4 : Nat))).setCell ⟨q1.heap.size, 2, none⟩ (.int .i64 (lenOf b2 3 : Nat))) := (((hs2.1.setCell (by first | exact Nat.le_refl _ | (simp only; omega)) _).setCell (by first | exact Nat.le_refl _ | (simp only; omega)) _).setCell (by first | exact Nat.le_refl _ | (simp only; omega)) _)
                    refine then_abs (fun X => Has (⟨q1.heap.size, 23, 3, v3 (lenOf b0 6) (lenOf b1 4) (lenOf b2 3)⟩ :: [⟨w.heap.size, 60, 3, u3 b0 b1 b2⟩]) X ∧ Below w.heap.size w X) ⟨.cons (v3_set ((v3_row q1 0 0 0).of_block (hq2.block _ (by first | omega | (simp; done) | (simp; omega))))) (RH.out.step hbz), HB.out.trans (hbz.mono HB.out.size)⟩ ?_
                    generalize q1.heap.size = gm
                    revert gm
                    exact KEY.out
                  · have hbz : Below W6.heap.size W6 (((q2.setCell ⟨q0.heap.size, 0, none⟩ (.int .i64 (lenOf b0 6 : Nat))).setCell ⟨q0.heap.size, 1, none⟩ (.int .i64 (lenOf b1 4 : Nat))).setCell ⟨q0.heap.size, 2, none⟩ (.int .i64 (lenOf b2 3 : Nat))) := (((hs2.1.setCell (by first | exact Nat.le_refl _ | (simp only; omega)) _).setCell (by first | exact Nat.le_refl _ | (simp only; omega)) _).setCell (by first | exact Nat.le_refl _ | (simp only; omega)) _)
                    refine then_abs (fun X => Has (⟨q0.heap.size, 23, 3, v3 (lenOf b0 6) (lenOf b1 4) (lenOf b2 3)⟩ :: [⟨w.heap.size, 60, 3, u3 b0 b1 b2⟩]) X ∧ Below w.heap.size w X) ⟨.cons (v3_set (((v3_row q0 0 0 0).of_block (hq1.block _ (by first | omega | (simp; done) | (simp; omega)))).of_block (hq2.block _ (by first | omega | (simp; done) | (simp; omega))))) (RH.out.step hbz), HB.out.trans (hbz.mono HB.out.size)⟩ ?_
                    generalize q0.heap.size = gm
                    revert gm
                    exact KEY.out
                  · have hbz : Below W6.heap.size W6 (((q2.setCell ⟨W6.heap.size, 0, none⟩ (.int .i64 (lenOf b0 6 : Nat))).setCell ⟨W6.heap.size, 1, none⟩ (.int .i64 (lenOf b1 4 : Nat))).setCell ⟨W6.heap.size, 2, none⟩ (.int .i64 (lenOf b2 3 : Nat))) := (((hs2.1.setCell (by first | exact Nat.le_refl _ | (simp only; omega)) _).setCell (by first | exact Nat.le_refl _ | (simp only; omega)) _).setCell (by first | exact Nat.le_refl _ | (simp only; omega)) _)
                    refine then_abs (fun X => Has (⟨W6.heap.size, 23, 3, v3 (lenOf b0 6) (lenOf b1 4) (lenOf b2 3)⟩ :: [⟨w.heap.size, 60, 3, u3 b0 b1 b2⟩]) X ∧ Below w.heap.size w X) ⟨.cons (v3_set ((((v3_row W6 0 0 0).of_block (hq0.block _ (by first | omega | (simp; done) | (simp; omega)))).of_block (hq1.block _ (by first | omega | (simp; done) | (simp; omega)))).of_block (hq2.block _ (by first | omega | (simp; done) | (simp; omega))))) (RH.out.step hbz), HB.out.trans (hbz.mono HB.out.size)⟩ ?_
                    generalize W6.heap.size = gm
                    revert gm
                    exact KEY.out
                case b =>
                  intro gm X6 hX
                  have RH6 := Lib.hid hX.1; have HB6 := Lib.hid hX.2
                  clear hX RH HB e0 e1 e2 lb RP
                  have RH := RH6; have HB := HB6
                  clear RH6 HB6
                  obtain ⟨m0, em0⟩ : ∃ m, m = lenOf b0 6 := ⟨_, rfl⟩
                  obtain ⟨m1, em1⟩ : ∃ m, m = lenOf b1 4 := ⟨_, rfl⟩
                  obtain ⟨m2, em2⟩ : ∃ m, m = lenOf b2 3 := ⟨_, rfl⟩
                  have r0 := lenOf_right b0 6 (by decide); have r1 := lenOf_right b1 4 (by decide); have r2 := lenOf_right b2 3 (by decide)
                  rw [← em0, ← em1, ← em2] at RH ⊢
                  rw [← em0] at r0; rw [← em1] at r1; rw [← em2] at r2
                  clear em0 em1 em2
                  have RR := Lib.hid (show rightB m0 = true ∧ rightB m1 = true ∧ rightB m2 = true from ⟨r0.1, r1.1, r2.1⟩)
                  have pL : m0 * m1 * m2 ≤ 72 := Nat.mul_le_mul (Nat.mul_le_mul r0.2.2 r1.2.2) r2.2.2
                  have p0 : 0 < m0 ∧ m0 ≤ 192 := by omega
                  have p1 : 0 < m1 ∧ m1 ≤ 192 := by omega
                  have p2 : 0 < m2 ∧ m2 ≤ 192 := by omega
                  clear r0 r1 r2
                  have C1 := Lib.hid (fun w' (hb : Below w.heap.size w w') => counts16_any m0 m1 m2 (RV.out w' hb) hlv HVB.out p0 p1 p2 (by omega))
                  have C2 := Lib.hid (fun w' (hb : Below w.heap.size w w') => counts16_any m0 m1 m2 (RW.out w' hb) hlw HWB.out p0 p1 p2 (by omega))
                  obtain ⟨L, eL⟩ : ∃ L, L = m0 * m1 * m2 := ⟨_, rfl⟩
                  rw [← eL] at C1 C2 pL
                  have EL := Lib.hid eL
                  clear eL
                  simp only [Exit.then]
                  have y0 : X6.cell? ⟨gm, 0, none⟩ = some (.int .i64 m0) := (show World.rowIs X6 (gm) 23 (3) (v3 m0 m1 m2) from RH.out.one 0 (by simp)).cell (i := 0) (show 0 < 3 by decide)
                  have y1 : X6.cell? ⟨gm, 1, none⟩ = some (.int .i64 m1) := (show World.rowIs X6 (gm) 23 (3) (v3 m0 m1 m2) from RH.out.one 0 (by simp)).cell (i := 1) (show 1 < 3 by decide)
                  have y2 : X6.cell? ⟨gm, 2, none⟩ = some (.int .i64 m2) := (show World.rowIs X6 (gm) 23 (3) (v3 m0 m1 m2) from RH.out.one 0 (by simp)).cell (i := 2) (show 2 < 3 by decide)
                  have ly : gm < X6.heap.size := (show World.rowIs X6 (gm) 23 (3) (v3 m0 m1 m2) from RH.out.one 0 (by simp)).lt
                  go_wp2_with fail
                  refine (C1.out _ HB.out).mono ?_
                  rintro e X7 ⟨⟨gx, rfl, hg, hr⟩, hb⟩
                  clear y0 y1 y2 ly
                  have hbx := hb
                  replace RH := Lib.hid (show Has [⟨gx, 3, L, fun i => .int .i64 (cf lv V i)⟩, ⟨gm, 23, 3, v3 m0 m1 m2⟩, ⟨w.heap.size, 60, 3, u3 b0 b1 b2⟩] X7 from .cons (hr) (RH.out.step hbx))
                  replace HB := Lib.hid (HB.out.trans (hbx.mono HB.out.size))
                  clear hbx hb
                  clear hg hr
                  have y0 : X7.cell? ⟨gm, 0, none⟩ = some (.int .i64 m0) := (show World.rowIs X7 (gm) 23 (3) (v3 m0 m1 m2) from RH.out.one 1 (by simp)).cell (i := 0) (show 0 < 3 by decide)
                  have y1 : X7.cell? ⟨gm, 1, none⟩ = some (.int .i64 m1) := (show World.rowIs X7 (gm) 23 (3) (v3 m0 m1 m2) from RH.out.one 1 (by simp)).cell (i := 1) (show 1 < 3 by decide)
                  have y2 : X7.cell? ⟨gm, 2, none⟩ = some (.int .i64 m2) := (show World.rowIs X7 (gm) 23 (3) (v3 m0 m1 m2) from RH.out.one 1 (by simp)).cell (i := 2) (show 2 < 3 by decide)
                  have ly : gm < X7.heap.size := (show World.rowIs X7 (gm) 23 (3) (v3 m0 m1 m2) from RH.out.one 1 (by simp)).lt
                  go_wp2_with fail
                  refine (C2.out _ (HB.out.trans (Below.mono (alloc_below _ _) HB.out.size))).mono ?_
                  rintro e X8 ⟨⟨gy, rfl, hg, hr⟩, hb⟩
                  clear y0 y1 y2 ly
                  have hbx : Below X7.heap.size X7 X8 := Below.trans (show Below X7.heap.size X7 (X7.alloc (.cells #[.int .i64 m0, .int .i64 m1, .int .i64 m2, .slice (some ⟨gx, 0, none⟩) L L] 26)) from (by repeat (first | assumption | exact Below.refl _ _ | refine below_drewN ?_ _ | refine Below.drew ?_ | refine Below.alloc ?_ (by first | (simp; done) | (simp; omega) | omega) _ | refine Below.setCell ?_ (by first | (simp; done) | (simp; omega) | omega) _))) (hb.mono (by first | (simp; done) | (simp; omega)))
                  replace RH := Lib.hid (show Has [⟨gy, 3, L, fun i => .int .i64 (cf lw W i)⟩, ⟨X7.heap.size, 26, 4, v4 m0 m1 m2 (.slice (some ⟨gx, 0, none⟩) L L)⟩, ⟨gx, 3, L, fun i => .int .i64 (cf lv V i)⟩, ⟨gm, 23, 3, v3 m0 m1 m2⟩, ⟨w.heap.size, 60, 3, u3 b0 b1 b2⟩] X8 from .cons (hr) (.cons ((v4_row X7 m0 m1 m2 _).of_block (hb.block _ (by first | (simp; done) | (simp; omega)))) (RH.out.step hbx)))
                  replace HB := Lib.hid (HB.out.trans (hbx.mono HB.out.size))
                  clear hbx hb
                  clear hg hr
                  obtain ⟨f, ef⟩ : ∃ f, f = cf lv V := ⟨_, rfl⟩
                  obtain ⟨g, eg⟩ : ∃ f, f = cf lw W := ⟨_, rfl⟩
                  rw [← ef, ← eg] at RH
                  have FB := Lib.hid (show ∀ i, -98304 ≤ f i ∧ f i ≤ 98304 by rw [ef]; exact cf_bound HVB.out)
                  have GB := Lib.hid (show ∀ i, -98304 ≤ g i ∧ g i ≤ 98304 by rw [eg]; exact cf_bound HWB.out)
                  clear ef eg C1 C2
                  have x0 : X8.cell? ⟨X7.heap.size, 0, none⟩ = some (.int .i64 m0) := (show World.rowIs X8 (X7.heap.size) 26 (4) (v4 m0 m1 m2 (.slice (some ⟨gx, 0, none⟩) L L)) from RH.out.one 1 (by simp)).cell (i := 0) (show 0 < 4 by first | decide | assumption | omega)
                  have x1 : X8.cell? ⟨X7.heap.size, 1, none⟩ = some (.int .i64 m1) := (show World.rowIs X8 (X7.heap.size) 26 (4) (v4 m0 m1 m2 (.slice (some ⟨gx, 0, none⟩) L L)) from RH.out.one 1 (by simp)).cell (i := 1) (show 1 < 4 by first | decide | assumption | omega)
                  have x2 : X8.cell? ⟨X7.heap.size, 2, none⟩ = some (.int .i64 m2) := (show World.rowIs X8 (X7.heap.size) 26 (4) (v4 m0 m1 m2 (.slice (some ⟨gx, 0, none⟩) L L)) from RH.out.one 1 (by simp)).cell (i := 2) (show 2 < 4 by first | decide | assumption | omega)
                  have x3 : X8.cell? ⟨X7.heap.size, 3, none⟩ = some (.slice (some ⟨gx, 0, none⟩) L L) := (show World.rowIs X8 (X7.heap.size) 26 (4) (v4 m0 m1 m2 (.slice (some ⟨gx, 0, none⟩) L L)) from RH.out.one 1 (by simp)).cell (i := 3) (show 3 < 4 by first | decide | assumption | omega)
                  have lx : X7.heap.size < X8.heap.size := (show World.rowIs X8 (X7.heap.size) 26 (4) (v4 m0 m1 m2 (.slice (some ⟨gx, 0, none⟩) L L)) from RH.out.one 1 (by simp)).lt
                  go_wp2_with fail
                  have hby : Below X8.heap.size X8 (X8.alloc (.cells #[.int .i64 m0, .int .i64 m1, .int .i64 m2, .slice (some ⟨gy, 0, none⟩) L L] 26)) := alloc_below _ _
                  refine (Fold_ok m0 m1 m2 L gx 0 L gy 0 L f g _ RR.out EL.out (by omega) (Nat.lt_of_lt_of_le (show World.rowIs X8 (gx) 3 (L) (fun i => .int .i64 (f i)) from RH.out.one 2 (by simp)).lt hby.size) (Nat.lt_of_lt_of_le (show World.rowIs X8 (gy) 3 (L) (fun i => .int .i64 (g i)) from RH.out.one 0 (by simp)).lt hby.size) (fun i hi => by rw [Nat.zero_add]; exact ((show World.rowIs X8 (gx) 3 (L) (fun i => .int .i64 (f i)) from RH.out.one 2 (by simp)).of_block (hby.block _ (show World.rowIs X8 (gx) 3 (L) (fun i => .int .i64 (f i)) from RH.out.one 2 (by simp)).lt)).cell hi) (fun i _ => by have := FB.out i; omega) (fun i hi => by rw [Nat.zero_add]; exact ((show World.rowIs X8 (gy) 3 (L) (fun i => .int .i64 (g i)) from RH.out.one 0 (by simp)).of_block (hby.block _ (show World.rowIs X8 (gy) 3 (L) (fun i => .int .i64 (g i)) from RH.out.one 0 (by simp)).lt)).cell hi) (fun i _ => by have := GB.out i; omega)).mono ?_
                  rintro e X9 ⟨⟨gf, rfl, hg, hr⟩, hb⟩
                  clear x0 x1 x2 x3 lx hby
                  have hbx : Below X8.heap.size X8 X9 := Below.trans (show Below X8.heap.size X8 (X8.alloc (.cells #[.int .i64 m0, .int .i64 m1, .int .i64 m2, .slice (some ⟨gy, 0, none⟩) L L] 26)) from (by repeat (first | assumption | exact Below.refl _ _ | refine below_drewN ?_ _ | refine Below.drew ?_ | refine Below.alloc ?_ (by first | (simp; done) | (simp; omega) | omega) _ | refine Below.setCell ?_ (by first | (simp; done) | (simp; omega) | omega) _))) (hb.mono (by first | (simp; done) | (simp; omega)))
                  replace RH := Lib.hid (show Has [⟨gf, 3, L, fun i => .int .i64 (foldZ m0 m1 m2 f g i)⟩, ⟨X8.heap.size, 26, 4, v4 m0 m1 m2 (.slice (some ⟨gy, 0, none⟩) L L)⟩, ⟨gy, 3, L, fun i => .int .i64 (g i)⟩, ⟨X7.heap.size, 26, 4, v4 m0 m1 m2 (.slice (some ⟨gx, 0, none⟩) L L)⟩, ⟨gx, 3, L, fun i => .int .i64 (f i)⟩, ⟨gm, 23, 3, v3 m0 m1 m2⟩, ⟨w.heap.size, 60, 3, u3 b0 b1 b2⟩] X9 from .cons (hr) (.cons ((v4_row X8 m0 m1 m2 _).of_block (hb.block _ (by first | (simp; done) | (simp; omega)))) (RH.out.step hbx)))
                  replace HB := Lib.hid (HB.out.trans (hbx.mono HB.out.size))
                  clear hbx hb
                  clear hg hr
                  have x0 : X9.cell? ⟨X7.heap.size, 0, none⟩ = some (.int .i64 m0) := (show World.rowIs X9 (X7.heap.size) 26 (4) (v4 m0 m1 m2 (.slice (some ⟨gx, 0, none⟩) L L)) from RH.out.one 3 (by simp)).cell (i := 0) (show 0 < 4 by first | decide | assumption | omega)
                  have x1 : X9.cell? ⟨X7.heap.size, 1, none⟩ = some (.int .i64 m1) := (show World.rowIs X9 (X7.heap.size) 26 (4) (v4 m0 m1 m2 (.slice (some ⟨gx, 0, none⟩) L L)) from RH.out.one 3 (by simp)).cell (i := 1) (show 1 < 4 by first | decide | assumption | omega)
                  have x2 : X9.cell? ⟨X7.heap.size, 2, none⟩ = some (.int .i64 m2) := (show World.rowIs X9 (X7.heap.size) 26 (4) (v4 m0 m1 m2 (.slice (some ⟨gx, 0, none⟩) L L)) from RH.out.one 3 (by simp)).cell (i := 2) (show 2 < 4 by first | decide | assumption | omega)
                  have x3 : X9.cell? ⟨X7.heap.size, 3, none⟩ = some (.slice (some ⟨gx, 0, none⟩) L L) := (show World.rowIs X9 (X7.heap.size) 26 (4) (v4 m0 m1 m2 (.slice (some ⟨gx, 0, none⟩) L L)) from RH.out.one 3 (by simp)).cell (i := 3) (show 3 < 4 by first | decide | assumption | omega)
                  have lx : X7.heap.size < X9.heap.size := (show World.rowIs X9 (X7.heap.size) 26 (4) (v4 m0 m1 m2 (.slice (some ⟨gx, 0, none⟩) L L)) from RH.out.one 3 (by simp)).lt
                  have y0 : X9.cell? ⟨X8.heap.size, 0, none⟩ = some (.int .i64 m0) := (show World.rowIs X9 (X8.heap.size) 26 (4) (v4 m0 m1 m2 (.slice (some ⟨gy, 0, none⟩) L L)) from RH.out.one 1 (by simp)).cell (i := 0) (show 0 < 4 by first | decide | assumption | omega)
                  have y1 : X9.cell? ⟨X8.heap.size, 1, none⟩ = some (.int .i64 m1) := (show World.rowIs X9 (X8.heap.size) 26 (4) (v4 m0 m1 m2 (.slice (some ⟨gy, 0, none⟩) L L)) from RH.out.one 1 (by simp)).cell (i := 1) (show 1 < 4 by first | decide | assumption | omega)
                  have y2 : X9.cell? ⟨X8.heap.size, 2, none⟩ = some (.int .i64 m2) := (show World.rowIs X9 (X8.heap.size) 26 (4) (v4 m0 m1 m2 (.slice (some ⟨gy, 0, none⟩) L L)) from RH.out.one 1 (by simp)).cell (i := 2) (show 2 < 4 by first | decide | assumption | omega)
                  have y3 : X9.cell? ⟨X8.heap.size, 3, none⟩ = some (.slice (some ⟨gy, 0, none⟩) L L) := (show World.rowIs X9 (X8.heap.size) 26 (4) (v4 m0 m1 m2 (.slice (some ⟨gy, 0, none⟩) L L)) from RH.out.one 1 (by simp)).cell (i := 3) (show 3 < 4 by first | decide | assumption | omega)
                  have ly : X8.heap.size < X9.heap.size := (show World.rowIs X9 (X8.heap.size) 26 (4) (v4 m0 m1 m2 (.slice (some ⟨gy, 0, none⟩) L L)) from RH.out.one 1 (by simp)).lt
                  go_wp2_with fail
                  have hby : Below X9.heap.size X9 (X9.alloc (.cells #[.int .i64 m0, .int .i64 m1, .int .i64 m2, .slice (some ⟨gf, 0, none⟩) L L] 26)) := alloc_below _ _
                  refine (Fold_ok m0 m1 m2 L gy 0 L gx 0 L g f _ RR.out EL.out (by omega) (Nat.lt_of_lt_of_le (show World.rowIs X9 (gy) 3 (L) (fun i => .int .i64 (g i)) from RH.out.one 2 (by simp)).lt hby.size) (Nat.lt_of_lt_of_le (show World.rowIs X9 (gx) 3 (L) (fun i => .int .i64 (f i)) from RH.out.one 4 (by simp)).lt hby.size) (fun i hi => by rw [Nat.zero_add]; exact ((show World.rowIs X9 (gy) 3 (L) (fun i => .int .i64 (g i)) from RH.out.one 2 (by simp)).of_block (hby.block _ (show World.rowIs X9 (gy) 3 (L) (fun i => .int .i64 (g i)) from RH.out.one 2 (by simp)).lt)).cell hi) (fun i _ => by have := GB.out i; omega) (fun i hi => by rw [Nat.zero_add]; exact ((show World.rowIs X9 (gx) 3 (L) (fun i => .int .i64 (f i)) from RH.out.one 4 (by simp)).of_block (hby.block _ (show World.rowIs X9 (gx) 3 (L) (fun i => .int .i64 (f i)) from RH.out.one 4 (by simp)).lt)).cell hi) (fun i _ => by have := FB.out i; omega)).mono ?_
                  rintro e Y0 ⟨⟨gh, rfl, hg, hr⟩, hb⟩
                  clear x0 x1 x2 x3 lx y0 y1 y2 y3 ly hby
                  have hbx : Below X9.heap.size X9 Y0 := Below.trans (show Below X9.heap.size X9 (X9.alloc (.cells #[.int .i64 m0, .int .i64 m1, .int .i64 m2, .slice (some ⟨gf, 0, none⟩) L L] 26)) from (by repeat (first | assumption | exact Below.refl _ _ | refine below_drewN ?_ _ | refine Below.drew ?_ | refine Below.alloc ?_ (by first | (simp; done) | (simp; omega) | omega) _ | refine Below.setCell ?_ (by first | (simp; done) | (simp; omega) | omega) _))) (hb.mono (by first | (simp; done) | (simp; omega)))
                  replace RH := Lib.hid (show Has [⟨gh, 3, L, fun i => .int .i64 (foldZ m0 m1 m2 f g i)⟩, ⟨X9.heap.size, 26, 4, v4 m0 m1 m2 (.slice (some ⟨gf, 0, none⟩) L L)⟩, ⟨gf, 3, L, fun i => .int .i64 (foldZ m0 m1 m2 f g i)⟩, ⟨X8.heap.size, 26, 4, v4 m0 m1 m2 (.slice (some ⟨gy, 0, none⟩) L L)⟩, ⟨gy, 3, L, fun i => .int .i64 (g i)⟩, ⟨X7.heap.size, 26, 4, v4 m0 m1 m2 (.slice (some ⟨gx, 0, none⟩) L L)⟩, ⟨gx, 3, L, fun i => .int .i64 (f i)⟩, ⟨gm, 23, 3, v3 m0 m1 m2⟩, ⟨w.heap.size, 60, 3, u3 b0 b1 b2⟩] Y0 from .cons (hr.congr (fun i hi => congrArg _ (fold_comm (right_le RR.out.1).1 (right_le RR.out.2.1).1 (right_le RR.out.2.2).1 g f (by rw [← EL.out]; exact hi)))) (.cons ((v4_row X9 m0 m1 m2 _).of_block (hb.block _ (by first | (simp; done) | (simp; omega)))) (RH.out.step hbx)))
                  replace HB := Lib.hid (HB.out.trans (hbx.mono HB.out.size))
                  clear hbx hb
                  clear hg hr
                  have x0 : Y0.cell? ⟨X7.heap.size, 0, none⟩ = some (.int .i64 m0) := (show World.rowIs Y0 (X7.heap.size) 26 (4) (v4 m0 m1 m2 (.slice (some ⟨gx, 0, none⟩) L L)) from RH.out.one 5 (by simp)).cell (i := 0) (show 0 < 4 by first | decide | assumption | omega)
                  have x1 : Y0.cell? ⟨X7.heap.size, 1, none⟩ = some (.int .i64 m1) := (show World.rowIs Y0 (X7.heap.size) 26 (4) (v4 m0 m1 m2 (.slice (some ⟨gx, 0, none⟩) L L)) from RH.out.one 5 (by simp)).cell (i := 1) (show 1 < 4 by first | decide | assumption | omega)
                  have x2 : Y0.cell? ⟨X7.heap.size, 2, none⟩ = some (.int .i64 m2) := (show World.rowIs Y0 (X7.heap.size) 26 (4) (v4 m0 m1 m2 (.slice (some ⟨gx, 0, none⟩) L L)) from RH.out.one 5 (by simp)).cell (i := 2) (show 2 < 4 by first | decide | assumption | omega)
                  have x3 : Y0.cell? ⟨X7.heap.size, 3, none⟩ = some (.slice (some ⟨gx, 0, none⟩) L L) := (show World.rowIs Y0 (X7.heap.size) 26 (4) (v4 m0 m1 m2 (.slice (some ⟨gx, 0, none⟩) L L)) from RH.out.one 5 (by simp)).cell (i := 3) (show 3 < 4 by first | decide | assumption | omega)
                  have lx : X7.heap.size < Y0.heap.size := (show World.rowIs Y0 (X7.heap.size) 26 (4) (v4 m0 m1 m2 (.slice (some ⟨gx, 0, none⟩) L L)) from RH.out.one 5 (by simp)).lt
                  have z0 : Y0.cell? ⟨X9.heap.size, 0, none⟩ = some (.int .i64 m0) := (show World.rowIs Y0 (X9.heap.size) 26 (4) (v4 m0 m1 m2 (.slice (some ⟨gf, 0, none⟩) L L)) from RH.out.one 1 (by simp)).cell (i := 0) (show 0 < 4 by first | decide | assumption | omega)
                  have z1 : Y0.cell? ⟨X9.heap.size, 1, none⟩ = some (.int .i64 m1) := (show World.rowIs Y0 (X9.heap.size) 26 (4) (v4 m0 m1 m2 (.slice (some ⟨gf, 0, none⟩) L L)) from RH.out.one 1 (by simp)).cell (i := 1) (show 1 < 4 by first | decide | assumption | omega)
                  have z2 : Y0.cell? ⟨X9.heap.size, 2, none⟩ = some (.int .i64 m2) := (show World.rowIs Y0 (X9.heap.size) 26 (4) (v4 m0 m1 m2 (.slice (some ⟨gf, 0, none⟩) L L)) from RH.out.one 1 (by simp)).cell (i := 2) (show 2 < 4 by first | decide | assumption | omega)
                  have z3 : Y0.cell? ⟨X9.heap.size, 3, none⟩ = some (.slice (some ⟨gf, 0, none⟩) L L) := (show World.rowIs Y0 (X9.heap.size) 26 (4) (v4 m0 m1 m2 (.slice (some ⟨gf, 0, none⟩) L L)) from RH.out.one 1 (by simp)).cell (i := 3) (show 3 < 4 by first | decide | assumption | omega)
                  have lz : X9.heap.size < Y0.heap.size := (show World.rowIs Y0 (X9.heap.size) 26 (4) (v4 m0 m1 m2 (.slice (some ⟨gf, 0, none⟩) L L)) from RH.out.one 1 (by simp)).lt
                  have y0 : Y0.cell? ⟨gm, 0, none⟩ = some (.int .i64 m0) := (show World.rowIs Y0 (gm) 23 (3) (v3 m0 m1 m2) from RH.out.one 7 (by simp)).cell (i := 0) (show 0 < 3 by decide)
                  have y1 : Y0.cell? ⟨gm, 1, none⟩ = some (.int .i64 m1) := (show World.rowIs Y0 (gm) 23 (3) (v3 m0 m1 m2) from RH.out.one 7 (by simp)).cell (i := 1) (show 1 < 3 by decide)
                  have y2 : Y0.cell? ⟨gm, 2, none⟩ = some (.int .i64 m2) := (show World.rowIs Y0 (gm) 23 (3) (v3 m0 m1 m2) from RH.out.one 7 (by simp)).cell (i := 2) (show 2 < 3 by decide)
                  have ly : gm < Y0.heap.size := (show World.rowIs Y0 (gm) 23 (3) (v3 m0 m1 m2) from RH.out.one 7 (by simp)).lt
                  go_wp2
                  refine wp_abs (fun X => (Has [⟨Y0.heap.size, 26, 4, v4 m0 m1 m2 (.slice (some ⟨gh, 0, none⟩) L L)⟩, ⟨gh, 3, L, fun i => .int .i64 (foldZ m0 m1 m2 f g i)⟩, ⟨X9.heap.size, 26, 4, v4 m0 m1 m2 (.slice (some ⟨gf, 0, none⟩) L L)⟩, ⟨gf, 3, L, fun i => .int .i64 (foldZ m0 m1 m2 f g i)⟩, ⟨X8.heap.size, 26, 4, v4 m0 m1 m2 (.slice (some ⟨gy, 0, none⟩) L L)⟩, ⟨gy, 3, L, fun i => .int .i64 (g i)⟩, ⟨X7.heap.size, 26, 4, v4 m0 m1 m2 (.slice (some ⟨gx, 0, none⟩) L L)⟩, ⟨gx, 3, L, fun i => .int .i64 (f i)⟩, ⟨gm, 23, 3, v3 m0 m1 m2⟩, ⟨w.heap.size, 60, 3, u3 b0 b1 b2⟩] X) ∧ Below w.heap.size w X) ⟨.cons (v4_row Y0 m0 m1 m2 _) (RH.out.step (alloc_below _ _)), HB.out.trans (Below.mono (alloc_below Y0 (.cells #[.int .i64 m0, .int .i64 m1, .int .i64 m2, .slice (some ⟨gh, 0, none⟩) L L] 26)) HB.out.size)⟩ ?_
                  intro Y1 hX
                  have RH1 := Lib.hid hX.1; have HB1 := Lib.hid hX.2
                  clear hX RH HB x0 x1 x2 x3 lx z0 z1 z2 z3 lz y0 y1 y2 ly
                  go_loopw [34] (fun y wr => ∃ j : Nat, j ≤ L ∧ y = .int .i64 j ∧ (Has [⟨Y0.heap.size, 26, 4, v4 m0 m1 m2 (.slice (some ⟨gh, 0, none⟩) L L)⟩, ⟨gh, 3, L, fun i => .int .i64 (foldZ m0 m1 m2 f g i)⟩, ⟨X9.heap.size, 26, 4, v4 m0 m1 m2 (.slice (some ⟨gf, 0, none⟩) L L)⟩, ⟨gf, 3, L, fun i => .int .i64 (foldZ m0 m1 m2 f g i)⟩, ⟨X8.heap.size, 26, 4, v4 m0 m1 m2 (.slice (some ⟨gy, 0, none⟩) L L)⟩, ⟨gy, 3, L, fun i => .int .i64 (g i)⟩, ⟨X7.heap.size, 26, 4, v4 m0 m1 m2 (.slice (some ⟨gx, 0, none⟩) L L)⟩, ⟨gx, 3, L, fun i => .int .i64 (f i)⟩, ⟨gm, 23, 3, v3 m0 m1 m2⟩, ⟨w.heap.size, 60, 3, u3 b0 b1 b2⟩] wr) ∧ Below w.heap.size w wr) (fun y _ => L - (RowKit.intOf y).toNat)
                  case atStart => exact ⟨0, Nat.zero_le _, rfl, RH1.out, HB1.out⟩
                  case round =>
                    obtain ⟨j, hj, rfl, hrh, hhb⟩ := hrel
                    have RH := Lib.hid hrh; have HB := Lib.hid hhb
                    clear hrh hhb RH1 HB1
                    have z3 : wr.cell? ⟨X9.heap.size, 3, none⟩ = some (.slice (some ⟨gf, 0, none⟩) L L) := (show World.rowIs wr (X9.heap.size) 26 (4) (v4 m0 m1 m2 (.slice (some ⟨gf, 0, none⟩) L L)) from RH.out.one 2 (by simp)).cell (i := 3) (show 3 < 4 by first | decide | assumption | omega)
                    have lz : X9.heap.size < wr.heap.size := (show World.rowIs wr (X9.heap.size) 26 (4) (v4 m0 m1 m2 (.slice (some ⟨gf, 0, none⟩) L L)) from RH.out.one 2 (by simp)).lt
                    by_cases hjL : j < L
                    · have hjl : (j : Int) < (L : Int) := by omega
                      have x0 : wr.cell? ⟨X7.heap.size, 0, none⟩ = some (.int .i64 m0) := (show World.rowIs wr (X7.heap.size) 26 (4) (v4 m0 m1 m2 (.slice (some ⟨gx, 0, none⟩) L L)) from RH.out.one 6 (by simp)).cell (i := 0) (show 0 < 4 by first | decide | assumption | omega)
                      have x1 : wr.cell? ⟨X7.heap.size, 1, none⟩ = some (.int .i64 m1) := (show World.rowIs wr (X7.heap.size) 26 (4) (v4 m0 m1 m2 (.slice (some ⟨gx, 0, none⟩) L L)) from RH.out.one 6 (by simp)).cell (i := 1) (show 1 < 4 by first | decide | assumption | omega)
                      have x2 : wr.cell? ⟨X7.heap.size, 2, none⟩ = some (.int .i64 m2) := (show World.rowIs wr (X7.heap.size) 26 (4) (v4 m0 m1 m2 (.slice (some ⟨gx, 0, none⟩) L L)) from RH.out.one 6 (by simp)).cell (i := 2) (show 2 < 4 by first | decide | assumption | omega)
                      have x3 : wr.cell? ⟨X7.heap.size, 3, none⟩ = some (.slice (some ⟨gx, 0, none⟩) L L) := (show World.rowIs wr (X7.heap.size) 26 (4) (v4 m0 m1 m2 (.slice (some ⟨gx, 0, none⟩) L L)) from RH.out.one 6 (by simp)).cell (i := 3) (show 3 < 4 by first | decide | assumption | omega)
                      have lx : X7.heap.size < wr.heap.size := (show World.rowIs wr (X7.heap.size) 26 (4) (v4 m0 m1 m2 (.slice (some ⟨gx, 0, none⟩) L L)) from RH.out.one 6 (by simp)).lt
                      have y0 : wr.cell? ⟨X8.heap.size, 0, none⟩ = some (.int .i64 m0) := (show World.rowIs wr (X8.heap.size) 26 (4) (v4 m0 m1 m2 (.slice (some ⟨gy, 0, none⟩) L L)) from RH.out.one 4 (by simp)).cell (i := 0) (show 0 < 4 by first | decide | assumption | omega)
                      have y1 : wr.cell? ⟨X8.heap.size, 1, none⟩ = some (.int .i64 m1) := (show World.rowIs wr (X8.heap.size) 26 (4) (v4 m0 m1 m2 (.slice (some ⟨gy, 0, none⟩) L L)) from RH.out.one 4 (by simp)).cell (i := 1) (show 1 < 4 by first | decide | assumption | omega)
                      have y2 : wr.cell? ⟨X8.heap.size, 2, none⟩ = some (.int .i64 m2) := (show World.rowIs wr (X8.heap.size) 26 (4) (v4 m0 m1 m2 (.slice (some ⟨gy, 0, none⟩) L L)) from RH.out.one 4 (by simp)).cell (i := 2) (show 2 < 4 by first | decide | assumption | omega)
                      have y3 : wr.cell? ⟨X8.heap.size, 3, none⟩ = some (.slice (some ⟨gy, 0, none⟩) L L) := (show World.rowIs wr (X8.heap.size) 26 (4) (v4 m0 m1 m2 (.slice (some ⟨gy, 0, none⟩) L L)) from RH.out.one 4 (by simp)).cell (i := 3) (show 3 < 4 by first | decide | assumption | omega)
                      have ly : X8.heap.size < wr.heap.size := (show World.rowIs wr (X8.heap.size) 26 (4) (v4 m0 m1 m2 (.slice (some ⟨gy, 0, none⟩) L L)) from RH.out.one 4 (by simp)).lt
                      have h3 : wr.cell? ⟨Y0.heap.size, 3, none⟩ = some (.slice (some ⟨gh, 0, none⟩) L L) := (show World.rowIs wr (Y0.heap.size) 26 (4) (v4 m0 m1 m2 (.slice (some ⟨gh, 0, none⟩) L L)) from RH.out.one 0 (by simp)).cell (i := 3) (show 3 < 4 by first | decide | assumption | omega)
                      have lh : Y0.heap.size < wr.heap.size := (show World.rowIs wr (Y0.heap.size) 26 (4) (v4 m0 m1 m2 (.slice (some ⟨gh, 0, none⟩) L L)) from RH.out.one 0 (by simp)).lt
                      have lf : gf < wr.heap.size := (show World.rowIs wr (gf) 3 (L) (fun i => .int .i64 (foldZ m0 m1 m2 f g i)) from RH.out.one 3 (by simp)).lt
                      have lg : gh < wr.heap.size := (show World.rowIs wr (gh) 3 (L) (fun i => .int .i64 (foldZ m0 m1 m2 f g i)) from RH.out.one 1 (by simp)).lt
                      obtain ⟨z, ez⟩ : ∃ z, z = foldZ m0 m1 m2 f g j := ⟨_, rfl⟩
                      have cf1 : wr.cell? ⟨gf, j, none⟩ = some (.int .i64 z) := by rw [ez]; exact (show World.rowIs wr (gf) 3 (L) (fun i => .int .i64 (foldZ m0 m1 m2 f g i)) from RH.out.one 3 (by simp)).cell hjL
                      have ch1 : wr.cell? ⟨gh, j, none⟩ = some (.int .i64 z) := by rw [ez]; exact (show World.rowIs wr (gh) 3 (L) (fun i => .int .i64 (foldZ m0 m1 m2 f g i)) from RH.out.one 1 (by simp)).cell hjL
                      have HFD := Lib.hid (fun w' (hb : Below wr.heap.size wr w') => ez ▸ folded_any m0 m1 m2 L gx 0 L gy 0 L j f g w' RR.out EL.out (by omega) hjL (Nat.lt_of_lt_of_le (show World.rowIs wr (gx) 3 (L) (fun i => .int .i64 (f i)) from RH.out.one 7 (by simp)).lt hb.size) (Nat.lt_of_lt_of_le (show World.rowIs wr (gy) 3 (L) (fun i => .int .i64 (g i)) from RH.out.one 5 (by simp)).lt hb.size) (fun i hi => by rw [Nat.zero_add]; exact ((show World.rowIs wr (gx) 3 (L) (fun i => .int .i64 (f i)) from RH.out.one 7 (by simp)).of_block (hb.block _ (show World.rowIs wr (gx) 3 (L) (fun i => .int .i64 (f i)) from RH.out.one 7 (by simp)).lt)).cell hi) FB.out (fun i hi => by rw [Nat.zero_add]; exact ((show World.rowIs wr (gy) 3 (L) (fun i => .int .i64 (g i)) from RH.out.one 5 (by simp)).of_block (hb.block _ (show World.rowIs wr (gy) 3 (L) (fun i => .int .i64 (g i)) from RH.out.one 5 (by simp)).lt)).cell hi) GB.out)
                      clear ez
                      go_wp2
                      refine region_all (by kernel_rfl) (by kernel_rfl) ?_
                      repeat (go_big_quiet_step ((go_at_call 35; with_reducible exact held_of _ (Nat.le_refl _) (HFD.out _ (BelowW.below _)))))
                      refine wpQuiet_nil ?_
                      rintro w7 ⟨⟨w0, hb⟩, rfl⟩
                      clear x0 x1 x2 x3 lx y0 y1 y2 y3 ly z3 lz h3 lh lf lg cf1 ch1 HFD
                      have hbx := hb
                      replace RH := Lib.hid (show Has [⟨Y0.heap.size, 26, 4, v4 m0 m1 m2 (.slice (some ⟨gh, 0, none⟩) L L)⟩, ⟨gh, 3, L, fun i => .int .i64 (foldZ m0 m1 m2 f g i)⟩, ⟨X9.heap.size, 26, 4, v4 m0 m1 m2 (.slice (some ⟨gf, 0, none⟩) L L)⟩, ⟨gf, 3, L, fun i => .int .i64 (foldZ m0 m1 m2 f g i)⟩, ⟨X8.heap.size, 26, 4, v4 m0 m1 m2 (.slice (some ⟨gy, 0, none⟩) L L)⟩, ⟨gy, 3, L, fun i => .int .i64 (g i)⟩, ⟨X7.heap.size, 26, 4, v4 m0 m1 m2 (.slice (some ⟨gx, 0, none⟩) L L)⟩, ⟨gx, 3, L, fun i => .int .i64 (f i)⟩, ⟨gm, 23, 3, v3 m0 m1 m2⟩, ⟨w.heap.size, 60, 3, u3 b0 b1 b2⟩] w7 from RH.out.step hbx)
                      replace HB := Lib.hid (HB.out.trans (hbx.mono HB.out.size))
                      clear hbx hb
                      go_wp2
                      go_roundw
                      case rel => exact ⟨j + 1, by omega, by go_num, RH.out, HB.out⟩
                      case measure => simp [RowKit.intOf]; omega
                    · go_wp2
                      go_ret
                      exact ⟨rfl, HB.out⟩
theorem u8_nat {a : Int} (h : (Lit.int .u8 a).wf = true) : ∃ n : Nat, a = n ∧ n ≤ 255 := by
  have e0 : IntKind.u8.min = 0 := rfl
  have e1 : IntKind.u8.max = 255 := rfl
  simp only [Lit.wf, Bool.and_eq_true, decide_eq_true_eq] at h
  exact ⟨a.toNat, by omega, by omega⟩
theorem exact_law {a0 a1 a2 k : Int} {sv sw sx : Value} {lv lw nx : Nat} {V W : Nat → Int} {X : Nat → Nat} {w : World} (h0 : (Lit.int .u8 a0).wf = true ∧ (Lit.int .u8 a1).wf = true ∧ (Lit.int .u8 a2).wf = true) (hk : (Lit.int .u8 k).wf = true)
    (hV : Rd w sv lv (fun i => .int .i16 (V i)) ∧ lv ≤ 140737488355328 ∧ ∀ i, -32768 ≤ V i ∧ V i ≤ 32767) (hW : Rd w sw lw (fun i => .int .i16 (W i)) ∧ lw ≤ 140737488355328 ∧ ∀ i, -32768 ≤ W i ∧ W i ≤ 32767) (hX : Rd w sx nx (fun i => wn (X i))) (hnx : nx ≤ 17592186044416) :
    Calls Try.prog 12 #[.agg #[.int .u8 a0, .int .u8 a1, .int .u8 a2], sv, sw, sx, .int .u8 k] w fun e w' => e = .returned (.bool true) ∧ Below w.heap.size w w' := by
  obtain ⟨w0, w1, w2⟩ := h0
  obtain ⟨b0, rfl, h0⟩ := u8_nat w0
  obtain ⟨b1, rfl, h1⟩ := u8_nat w1
  obtain ⟨b2, rfl, h2⟩ := u8_nat w2
  obtain ⟨kb, rfl, h3⟩ := u8_nat hk
  exact exact_any h0 h1 h2 h3 hV.1 hV.2.1 hV.2.2 hW.1 hW.2.1 hW.2.2 hX hnx

end Go.Proofs.Ytjmhnmlmnlefaaa
