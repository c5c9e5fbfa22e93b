/-
  forward.
-/
import Derived.Test.YtjmhnmlmnlefaaaNttN
namespace Go.Proofs.Ytjmhnmlmnlefaaa
open Go.RowKit Go.Lib
attribute [local irreducible] World.setCell dft idft mix alongF sm pw iF bwd
set_option linter.unusedSimpArgs false
set_option linter.unusedVariables false


set_option maxHeartbeats 4000000 in
set_option maxRecDepth 100000 in
theorem forward_any (n0 n1 n2 L bv ov cap : Nat) (V : Nat → Int) (w : World) (hB : Box n0 n1 n2 L) (hbv : bv < w.heap.size) (hV : ∀ i, i < L → w.cell? ⟨bv, ov + i, none⟩ = some (.int .i64 (V i))) (hVb : ∀ i, i < L → -1048576 ≤ V i ∧ V i ≤ 1048576) :
    Calls Try.prog 38 #[.agg #[.int .i64 n0, .int .i64 n1, .int .i64 n2, .slice (some ⟨bv, ov, none⟩) L cap]] w fun e w' => (∃ g, e = .returned (.slice (some ⟨g, 0, none⟩) L L) ∧ w.heap.size ≤ g ∧ w'.rowIs g 41 L (fun i => wd (fwd n0 n1 n2 (fun i => iF (V i)) i))) ∧ Below w.heap.size w w' := by
  obtain ⟨h0, h1, h2, hL, hLb⟩ := hB
  have hmk := mk41 L (by omega)
  have hmf : ∀ (fn : Fn) (first cap : Array Value) (w : World), (Instr.makeFunc fn first cap).run Try.prog w = .ok (.func fn first cap) w := fun _ _ _ _ => rfl
  have hLi : (L : Int) ≤ 262144 := by omega
  have n0le := h0.2.2; have n1le := h1.2.2; have n2le := h2.2.2; have n0p := h0.1; have n1p := h1.1; have n2p := h2.1
  have HB := Lib.hid (And.intro h0 (And.intro h1 (And.intro h2 (And.intro hL hLb)))); have HV := Lib.hid (And.intro hV hVb); clear h0 h1 h2 hL hLb hV hVb
  have HM1 := Lib.hid ((w.alloc (.cells #[.int .i64 n0, .int .i64 n1, .int .i64 n2, .slice (some ⟨bv, ov, none⟩) L cap] 26)).rowIs_made (.int .u64 0) L 41)
  go_enter Try.func38, Try.ntmps38
  go_wp2
  go_loopw [15] (fun i wr => ∃ j : Nat, j ≤ L ∧ i = .int .i64 j ∧ wr.rowIs (w.heap.size + 1) 41 L (upTo j (fun i => iF (V i))) ∧ wr.rowIs w.heap.size 26 4 (fun i => if i = 0 then .int .i64 n0 else if i = 1 then .int .i64 n1 else if i = 2 then .int .i64 n2 else .slice (some ⟨bv, ov, none⟩) L cap) ∧ Below w.heap.size w wr) (fun i _ => L - (RowKit.intOf i).toNat)
  case atStart =>
    refine ⟨0, Nat.zero_le _, rfl, upTo_none _ (by have := HM1.out; simp only [World.size_alloc] at this; exact this), (World.rowIs_alloc w _ 26 _ (fun i hi => ?_)).alloc _, ((Below.refl _ _).alloc (Nat.le_refl _) _).alloc (by simp) _⟩
    match i, hi with
    | 0, _ => rfl
    | 1, _ => rfl
    | 2, _ => rfl
    | 3, _ => rfl
  case round =>
    obtain ⟨j, hj, rfl, qx, qb, qB⟩ := hrel
    have hf : wr.frozen? ⟨w.heap.size + 1, j, none⟩ = false := qx.frozen j
    have b0 : wr.cell? ⟨w.heap.size, 0, none⟩ = some (.int .i64 n0) := qb.cell (i := 0) (by decide)
    have b1 : wr.cell? ⟨w.heap.size, 1, none⟩ = some (.int .i64 n1) := qb.cell (i := 1) (by decide)
    have b2 : wr.cell? ⟨w.heap.size, 2, none⟩ = some (.int .i64 n2) := qb.cell (i := 2) (by decide)
    have b3 : wr.cell? ⟨w.heap.size, 3, none⟩ = some (.slice (some ⟨bv, ov, none⟩) L cap) := qb.cell (i := 3) (by decide)
    have QX := Lib.hid qx; have QB := Lib.hid qB; have QC := Lib.hid qb; clear qx qB qb HM1 hmk
    by_cases hjL : j < L
    · obtain ⟨ov', hcx⟩ : ∃ v, wr.cell? ⟨w.heap.size + 1, j, none⟩ = some v := ⟨_, QX.out.cell hjL⟩
      have hcv : wr.cell? ⟨bv, ov + j, none⟩ = some (.int .i64 (V j)) := (QB.out.cell (p := ⟨bv, ov + j, none⟩) hbv).trans (HV.out.1 j hjL)
      have hvb := HV.out.2 j hjL
      obtain ⟨v, ev⟩ : ∃ v, v = V j := ⟨_, rfl⟩
      rw [← ev] at hcv hvb
      have EV := Lib.hid ev; clear ev
      obtain ⟨v1, v2⟩ := hvb
      by_cases hv : v < 0
      · go_wp2
        go_roundw
        case rel => exact ⟨j + 1, by omega, by go_num, upTo_step QX.out _ (congrArg (Value.int .u64) (by rw [← EV.out]; exact wd_neg v hv v1)), QC.out.setOther (by simp) _, QB.out.setCell (by simp) _⟩
        case measure => simp [RowKit.intOf]; omega
      · go_wp2
        go_roundw
        case rel => exact ⟨j + 1, by omega, by go_num, upTo_step QX.out _ (congrArg (Value.int .u64) (by rw [← EV.out]; exact wd_pos v (by omega) v2)), QC.out.setOther (by simp) _, QB.out.setCell (by simp) _⟩
        case measure => simp [RowKit.intOf]; omega
    · have hjL' : j = L := by omega
      have HJ := Lib.hid (show wr.rowIs (w.heap.size + 1) 41 L (fun i => wd (iF (V i))) by have := QX.out; rw [hjL'] at this; exact upTo_full this)
      have hwl : w.heap.size < wr.heap.size := QC.out.lt
      have hwl2 : ¬ w.heap.size = wr.heap.size := by omega
      have hxl : w.heap.size + 1 < wr.heap.size := QX.out.lt
      clear QX hjL'
      go_wp2
      refine wp_loop_rounds 4 ?_
      rw [rounds_succ]
      go_wp2_with fail
      refine (root_any n0 _ (by omega) (by omega)).mono ?_
      rintro e wa0 ⟨rfl, k0, hwa⟩
      rw [Int.toNat_natCast]
      have c0 : wa0.cell? ⟨w.heap.size, 0, none⟩ = some (.int .i64 n0) := by rw [hwa]; exact b0
      have c1 : wa0.cell? ⟨w.heap.size, 1, none⟩ = some (.int .i64 n1) := by rw [hwa]; exact b1
      have c2 : wa0.cell? ⟨w.heap.size, 2, none⟩ = some (.int .i64 n2) := by rw [hwa]; exact b2
      have hal : w.heap.size + 1 < wa0.heap.size := by rw [hwa]; exact hxl
      have hal0 : w.heap.size < wa0.heap.size := Nat.lt_trans (Nat.lt_succ_self _) hal
      have hal1 : ¬ w.heap.size = wa0.heap.size := Nat.ne_of_lt hal0
      have QA := Lib.hid (show wa0.rowIs (w.heap.size + 1) 41 L (fun i => wd ((fun i => iF (V i)) i)) by rw [hwa]; exact HJ.out)
      have QBA := Lib.hid (show Below w.heap.size w wa0 by rw [hwa]; exact below_drewN QB.out _)
      clear hwa b0 b1 b2 hxl HJ QB
      go_wp2_with fail
      refine (alongA0 n0 n1 n2 (n1 * n2) n0 L 1 (w.heap.size + 1) wa0.heap.size (fun i => iF (V i)) _ n0p (HB.out.1.2.1) (Nat.mul_pos n1p n2p) rfl rfl n1le n2le (by rw [HB.out.2.2.2.1, Nat.one_mul, Nat.mul_assoc]) HB.out.2.2.2.2 (by simp; omega) (by simp) hal (by go_simp) (QA.out.alloc _)).mono ?_
      rintro e wb0 ⟨rfl, hrow, hbel⟩
      have b0 : wb0.cell? ⟨w.heap.size, 0, none⟩ = some (.int .i64 n0) := (hbel.cell (p := ⟨w.heap.size, 0, none⟩) (Nat.lt_succ_self _)).trans (by go_simp)
      have b1 : wb0.cell? ⟨w.heap.size, 1, none⟩ = some (.int .i64 n1) := (hbel.cell (p := ⟨w.heap.size, 1, none⟩) (Nat.lt_succ_self _)).trans (by go_simp)
      have b2 : wb0.cell? ⟨w.heap.size, 2, none⟩ = some (.int .i64 n2) := (hbel.cell (p := ⟨w.heap.size, 2, none⟩) (Nat.lt_succ_self _)).trans (by go_simp)
      have hxl : w.heap.size + 1 < wb0.heap.size := hrow.lt
      have HJ := Lib.hid (show wb0.rowIs (w.heap.size + 1) 41 L (fun i => wd ((alongF (dft n0 (rt n0)) (n1 * n2) n0 (fun i => iF (V i))) i)) from hrow)
      have QB := Lib.hid ((QBA.out.alloc (Nat.le_of_lt hal0) _).trans (hbel.mono (Nat.le_succ _)))
      clear hrow hbel c0 c1 c2 QA QBA hal hal0 hal1
      go_wp2
      rw [rounds_succ]
      go_wp2_with fail
      refine (root_any n1 _ (by omega) (by omega)).mono ?_
      rintro e wa1 ⟨rfl, k1, hwa⟩
      rw [Int.toNat_natCast]
      have c0 : wa1.cell? ⟨w.heap.size, 0, none⟩ = some (.int .i64 n0) := by rw [hwa]; exact b0
      have c1 : wa1.cell? ⟨w.heap.size, 1, none⟩ = some (.int .i64 n1) := by rw [hwa]; exact b1
      have c2 : wa1.cell? ⟨w.heap.size, 2, none⟩ = some (.int .i64 n2) := by rw [hwa]; exact b2
      have hal : w.heap.size + 1 < wa1.heap.size := by rw [hwa]; exact hxl
      have hal0 : w.heap.size < wa1.heap.size := Nat.lt_trans (Nat.lt_succ_self _) hal
      have hal1 : ¬ w.heap.size = wa1.heap.size := Nat.ne_of_lt hal0
      have QA := Lib.hid (show wa1.rowIs (w.heap.size + 1) 41 L (fun i => wd ((alongF (dft n0 (rt n0)) (n1 * n2) n0 (fun i => iF (V i))) i)) by rw [hwa]; exact HJ.out)
      have QBA := Lib.hid (show Below w.heap.size w wa1 by rw [hwa]; exact below_drewN QB.out _)
      clear hwa b0 b1 b2 hxl HJ QB
      go_wp2_with fail
      refine (alongA1 n0 n1 n2 n2 n1 L n0 (w.heap.size + 1) wa1.heap.size (alongF (dft n0 (rt n0)) (n1 * n2) n0 (fun i => iF (V i))) _ n1p (HB.out.2.1.2.1) (n2p) rfl rfl n1le n2le (by rw [HB.out.2.2.2.1, Nat.mul_assoc]) HB.out.2.2.2.2 (by simp; omega) (by simp) hal (by go_simp) (QA.out.alloc _)).mono ?_
      rintro e wb1 ⟨rfl, hrow, hbel⟩
      have b0 : wb1.cell? ⟨w.heap.size, 0, none⟩ = some (.int .i64 n0) := (hbel.cell (p := ⟨w.heap.size, 0, none⟩) (Nat.lt_succ_self _)).trans (by go_simp)
      have b1 : wb1.cell? ⟨w.heap.size, 1, none⟩ = some (.int .i64 n1) := (hbel.cell (p := ⟨w.heap.size, 1, none⟩) (Nat.lt_succ_self _)).trans (by go_simp)
      have b2 : wb1.cell? ⟨w.heap.size, 2, none⟩ = some (.int .i64 n2) := (hbel.cell (p := ⟨w.heap.size, 2, none⟩) (Nat.lt_succ_self _)).trans (by go_simp)
      have hxl : w.heap.size + 1 < wb1.heap.size := hrow.lt
      have HJ := Lib.hid (show wb1.rowIs (w.heap.size + 1) 41 L (fun i => wd ((alongF (dft n1 (rt n1)) n2 n1 (alongF (dft n0 (rt n0)) (n1 * n2) n0 (fun i => iF (V i)))) i)) from hrow)
      have QB := Lib.hid ((QBA.out.alloc (Nat.le_of_lt hal0) _).trans (hbel.mono (Nat.le_succ _)))
      clear hrow hbel c0 c1 c2 QA QBA hal hal0 hal1
      go_wp2
      rw [rounds_succ]
      go_wp2_with fail
      refine (root_any n2 _ (by omega) (by omega)).mono ?_
      rintro e wa2 ⟨rfl, k2, hwa⟩
      rw [Int.toNat_natCast]
      have c0 : wa2.cell? ⟨w.heap.size, 0, none⟩ = some (.int .i64 n0) := by rw [hwa]; exact b0
      have c1 : wa2.cell? ⟨w.heap.size, 1, none⟩ = some (.int .i64 n1) := by rw [hwa]; exact b1
      have c2 : wa2.cell? ⟨w.heap.size, 2, none⟩ = some (.int .i64 n2) := by rw [hwa]; exact b2
      have hal : w.heap.size + 1 < wa2.heap.size := by rw [hwa]; exact hxl
      have hal0 : w.heap.size < wa2.heap.size := Nat.lt_trans (Nat.lt_succ_self _) hal
      have hal1 : ¬ w.heap.size = wa2.heap.size := Nat.ne_of_lt hal0
      have QA := Lib.hid (show wa2.rowIs (w.heap.size + 1) 41 L (fun i => wd ((alongF (dft n1 (rt n1)) n2 n1 (alongF (dft n0 (rt n0)) (n1 * n2) n0 (fun i => iF (V i)))) i)) by rw [hwa]; exact HJ.out)
      have QBA := Lib.hid (show Below w.heap.size w wa2 by rw [hwa]; exact below_drewN QB.out _)
      clear hwa b0 b1 b2 hxl HJ QB
      go_wp2_with fail
      refine (alongA2 n0 n1 n2 1 n2 L (n0 * n1) (w.heap.size + 1) wa2.heap.size (alongF (dft n1 (rt n1)) n2 n1 (alongF (dft n0 (rt n0)) (n1 * n2) n0 (fun i => iF (V i)))) _ n2p (HB.out.2.2.1.2.1) (Nat.one_pos) rfl rfl n1le n2le (by rw [HB.out.2.2.2.1, Nat.mul_one]) HB.out.2.2.2.2 (by simp; omega) (by simp) hal (by go_simp) (QA.out.alloc _)).mono ?_
      rintro e wb2 ⟨rfl, hrow, hbel⟩
      have b0 : wb2.cell? ⟨w.heap.size, 0, none⟩ = some (.int .i64 n0) := (hbel.cell (p := ⟨w.heap.size, 0, none⟩) (Nat.lt_succ_self _)).trans (by go_simp)
      have b1 : wb2.cell? ⟨w.heap.size, 1, none⟩ = some (.int .i64 n1) := (hbel.cell (p := ⟨w.heap.size, 1, none⟩) (Nat.lt_succ_self _)).trans (by go_simp)
      have b2 : wb2.cell? ⟨w.heap.size, 2, none⟩ = some (.int .i64 n2) := (hbel.cell (p := ⟨w.heap.size, 2, none⟩) (Nat.lt_succ_self _)).trans (by go_simp)
      have hxl : w.heap.size + 1 < wb2.heap.size := hrow.lt
      have HJ := Lib.hid (show wb2.rowIs (w.heap.size + 1) 41 L (fun i => wd ((fwd n0 n1 n2 (fun i => iF (V i))) i)) from hrow)
      have QB := Lib.hid ((QBA.out.alloc (Nat.le_of_lt hal0) _).trans (hbel.mono (Nat.le_succ _)))
      clear hrow hbel c0 c1 c2 QA QBA hal hal0 hal1
      go_wp2
      rw [rounds_succ]
      go_wp2
      go_ret
      exact ⟨⟨_, rfl, Nat.le_succ _, HJ.out⟩, QB.out⟩

end Go.Proofs.Ytjmhnmlmnlefaaa
