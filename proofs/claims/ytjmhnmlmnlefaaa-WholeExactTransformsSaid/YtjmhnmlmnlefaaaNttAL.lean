/-
  The law NttLaws where a fold is not refused.
-/
import Derived.Test.YtjmhnmlmnlefaaaNttAK
namespace Go.Proofs.Ytjmhnmlmnlefaaa
open Go.RowKit Go.Lib
attribute [local irreducible] World.setCell
set_option linter.unusedSimpArgs false
set_option linter.unusedVariables false


theorem mul_bd {a b : Int} (ha : -629145600 ≤ a ∧ a ≤ 629145600) (hb : -629145600 ≤ b ∧ b ≤ 629145600) : -395824185999360000 ≤ a * b ∧ a * b ≤ 395824185999360000 := by
  have h := Nat.mul_le_mul (show a.natAbs ≤ 629145600 by omega) (show b.natAbs ≤ 629145600 by omega)
  rw [← Int.natAbs_mul] at h
  omega
theorem then_abs {K Q a w} (S : World → Prop) (h : S w) (k : ∀ w', S w' → Exit.then K Q .normal a w') : Exit.then K Q .normal a w := k w h
theorem rchk_ok (n0 n1 n2 L b off cap : Nat) (V : Nat → Int) (w : World) (hr : rightB n0 = true ∧ rightB n1 = true ∧ rightB n2 = true) (hL : L = n0 * n1 * n2) (hb : L ≤ 262144) (hl : b < w.heap.size) (hc : ∀ i, i < L → w.cell? ⟨b, off + i, none⟩ = some (.int .i64 (V i))) (hV : ∀ i, i < L → -1048576 ≤ V i ∧ V i ≤ 1048576) :
    Calls Try.prog 36 #[.agg #[.int .i64 n0, .int .i64 n1, .int .i64 n2, .slice (some ⟨b, off, none⟩) L cap]] w fun e w' => e = .returned (.int .i64 0) ∧ Below w.heap.size w w' := by
  have h := rchk_box n0 n1 n2 L cap L (some ⟨b, off, none⟩) V w hr.1 hr.2.1 hr.2.2 (by omega) (fun _ => ⟨b, off, rfl, hl, hc⟩) (Nat.le_refl _) hV (fun h => absurd h (Nat.lt_irrefl _))
  rw [← hL] at h
  have e : cerr L L L = 0 := by unfold cerr; rw [if_neg (by omega), if_neg (by simp), if_neg (Nat.lt_irrefl _)]
  rw [e] at h
  exact h
set_option maxHeartbeats 16000000 in
set_option maxRecDepth 100000 in
theorem laws_ok (n0 n1 n2 L ba oa ca bb ob cb : Nat) (k : Int) (V W : Nat → Int) (w : World) (hr : rightB n0 = true ∧ rightB n1 = true ∧ rightB n2 = true) (hL : L = n0 * n1 * n2) (hLb : L ≤ 262144) (hba : ba < w.heap.size) (hbb : bb < w.heap.size)
    (hV : ∀ i, i < L → w.cell? ⟨ba, oa + i, none⟩ = some (.int .i64 (V i))) (hVb : ∀ i, i < L → -1048576 ≤ V i ∧ V i ≤ 1048576) (hW : ∀ i, i < L → w.cell? ⟨bb, ob + i, none⟩ = some (.int .i64 (W i))) (hWb : ∀ i, i < L → -1048576 ≤ W i ∧ W i ≤ 1048576) :
    Calls Try.prog 4 #[.agg #[.int .i64 n0, .int .i64 n1, .int .i64 n2, .slice (some ⟨ba, oa, none⟩) L ca], .agg #[.int .i64 n0, .int .i64 n1, .int .i64 n2, .slice (some ⟨bb, ob, none⟩) L cb], .int .i64 k] w fun e w' => e = .returned (.bool true) ∧ Below w.heap.size w w' := by
  have HBX := Lib.hid (box_of hr hL hLb)
  have h0 := HBX.out.h0; have h1 := HBX.out.h1; have h2 := HBX.out.h2
  have FOLD := Lib.hid (fun (W' : Nat → Int) (hWb' : ∀ i, i < L → -1048576 ≤ W' i ∧ W' i ≤ 1048576) (b o c : Nat) (w' : World) (hb : Below w.heap.size w w') (hl : b < w'.heap.size) (hc : ∀ i, i < L → w'.cell? ⟨b, o + i, none⟩ = some (.int .i64 (W' i))) => Fold_ok n0 n1 n2 L ba oa ca b o c V W' w' hr hL hLb (Nat.lt_of_lt_of_le hba hb.size) hl (fun i hi => (hb.cell (p := ⟨ba, oa + i, none⟩) hba).trans (hV i hi)) hVb hc hWb')
  have FAB := Lib.hid (fun (w' : World) (hb : Below w.heap.size w w') => FOLD.out W hWb bb ob cb w' hb (Nat.lt_of_lt_of_le hbb hb.size) (fun i hi => (hb.cell (p := ⟨bb, ob + i, none⟩) hbb).trans (hW i hi)))
  have FBA := Lib.hid (fun (w' : World) (hb : Below w.heap.size w w') => (Fold_ok n0 n1 n2 L bb ob cb ba oa ca W V w' hr hL hLb (Nat.lt_of_lt_of_le hbb hb.size) (Nat.lt_of_lt_of_le hba hb.size) (fun i hi => (hb.cell (p := ⟨bb, ob + i, none⟩) hbb).trans (hW i hi)) hWb (fun i hi => (hb.cell (p := ⟨ba, oa + i, none⟩) hba).trans (hV i hi)) hVb).mono (R' := fun e w'' => (∃ g, e = .returned (.tuple #[.agg #[.int .i64 n0, .int .i64 n1, .int .i64 n2, .slice (some ⟨g, 0, none⟩) L L], .int .i64 0]) ∧ w'.heap.size ≤ g ∧ w''.rowIs g 3 L (fun i => .int .i64 (foldZ n0 n1 n2 V W i))) ∧ Below w'.heap.size w' w'') (by
    rintro e w'' ⟨⟨g, e1, e2, e3⟩, e4⟩
    exact ⟨⟨g, e1, e2, e3.congr (fun i hi => by rw [fold_comm h0.1 h1.1 h2.1 V W (by rw [← hL]; exact hi)])⟩, e4⟩))
  have RA := Lib.hid (fun (w' : World) (hb : Below w.heap.size w w') => (show Rd w' (.slice (some ⟨ba, oa, none⟩) L ca) L (fun i => .int .i64 (V i)) from ⟨_, _, rfl, fun _ => ⟨ba, oa, rfl, Nat.lt_of_lt_of_le hba hb.size, fun i hi => (hb.cell (p := ⟨ba, oa + i, none⟩) hba).trans (hV i hi)⟩⟩))
  have RB := Lib.hid (fun (w' : World) (hb : Below w.heap.size w w') => (show Rd w' (.slice (some ⟨bb, ob, none⟩) L cb) L (fun i => .int .i64 (W i)) from ⟨_, _, rfl, fun _ => ⟨bb, ob, rfl, Nat.lt_of_lt_of_le hbb hb.size, fun i hi => (hb.cell (p := ⟨bb, ob + i, none⟩) hbb).trans (hW i hi)⟩⟩))
  obtain ⟨fw, hfw⟩ : ∃ b, b = decide (L ≤ 600) := ⟨_, rfl⟩
  have FWL := Lib.hid (show fw = true → L ≤ 600 by rw [hfw]; exact of_decide_eq_true)
  have FEW := Lib.hid (fun (w' : World) (hb : Below w.heap.size w w') => show Calls Try.prog 14 #[.agg #[.int .i64 n0, .int .i64 n1, .int .i64 n2, .slice (some ⟨ba, oa, none⟩) L ca]] w' fun e w'' => e = .returned (.bool fw) ∧ Below w'.heap.size w' w'' from by
    obtain ⟨c, hc, hg, _, hd⟩ := grid_code n0 n1 n2 (.slice (some ⟨ba, oa, none⟩) L ca) L V w' (RA.out w' hb) (by omega)
    have h := few_box n0 n1 n2 0 L ca (some ⟨ba, oa, none⟩) w' (by omega) (fun w'' hb2 => (rchk_ok n0 n1 n2 L ba oa ca V w'' hr hL hLb (Nat.lt_of_lt_of_le hba (hb.trans (hb2.mono hb.size)).size) (fun i hi => ((hb.trans (hb2.mono hb.size)).cell (p := ⟨ba, oa + i, none⟩) hba).trans (hV i hi)) hVb))
    rw [show decide ((0 : Int) ≠ 0 ∨ L ≤ 600) = fw by rw [hfw]; simp] at h
    exact h)
  have FZB := Lib.hid (show L ≤ 600 → ∀ i, i < L → -1125899906842624 ≤ foldZ n0 n1 n2 V W i ∧ foldZ n0 n1 n2 V W i ≤ 1125899906842624 from fun h6 i _ => by
    have h := fold_bound' h0.1 h1.1 h2.1 (V := V) (W := W) (by rw [← hL]; exact hVb) (by rw [← hL]; exact hWb) i
    rw [← hL] at h
    omega)
  have FMB := Lib.hid (show L ≤ 600 → ∀ kk i, i < L → -1125899906842624 ≤ foldZ n0 n1 n2 V (lone kk) i ∧ foldZ n0 n1 n2 V (lone kk) i ≤ 1125899906842624 from fun h6 kk i _ => by
    have h := fold_bound' h0.1 h1.1 h2.1 (V := V) (W := lone kk) (by rw [← hL]; exact hVb) (fun i _ => by unfold lone; split <;> omega) i
    rw [← hL] at h
    omega)
  have FAB1 := Lib.hid (show ∀ i, i < L → -1125899906842624 ≤ V i ∧ V i ≤ 1125899906842624 from fun i hi => by have := hVb i hi; omega)
  have FBB1 := Lib.hid (show ∀ i, i < L → -1125899906842624 ≤ W i ∧ W i ≤ 1125899906842624 from fun i hi => by have := hWb i hi; omega)
  obtain ⟨sA, esA⟩ : ∃ s, s = sz L V := ⟨_, rfl⟩
  obtain ⟨sB, esB⟩ : ∃ s, s = sz L W := ⟨_, rfl⟩
  have ESA := Lib.hid esA; have ESB := Lib.hid esB
  have SZ := Lib.hid (show sz L (foldZ n0 n1 n2 V W) = sA * sB by rw [esA, esB, hL]; exact fold_sum h0.1 h1.1 h2.1 V W)
  have SAB := Lib.hid (show L ≤ 600 → IntKind.i64.wrap (sA * sB) = sA * sB from fun h6 => by
    have ha := sz_bound (n := L) (f := V) (K := 1048576) hVb
    have hb := sz_bound (n := L) (f := W) (K := 1048576) hWb
    rw [← esA] at ha
    rw [← esB] at hb
    have h := mul_bd (a := sA) (b := sB) (by omega) (by omega)
    exact IntWalk.i64_in _ (by omega))
  have HLP := Lib.hid (show 0 < L by rw [hL]; exact Nat.mul_pos (Nat.mul_pos h0.1 h1.1) h2.1)
  have HWB := Lib.hid hWb; have HV := Lib.hid hV; have HBA := Lib.hid hba; have HW := Lib.hid hW; have HBB := Lib.hid hbb
  clear hfw hr hL hba hbb hV hVb hW hWb esA esB h0 h1 h2
  go_enter Try.func4, Try.ntmps4
  go_wp2_with fail
  refine (awake_any _).mono ?_
  rintro e W1 ⟨rfl, hb1⟩
  have RH := Lib.hid (show Has [⟨w.heap.size, 26, 4, v4 n0 n1 n2 (.slice (some ⟨ba, oa, none⟩) L ca)⟩, ⟨w.heap.size + 1, 26, 4, v4 n0 n1 n2 (.slice (some ⟨bb, ob, none⟩) L cb)⟩] W1 from .cons (((v4_row w n0 n1 n2 (.slice (some ⟨ba, oa, none⟩) L ca)).alloc _).of_block (hb1.block _ (by simp; omega))) (.cons ((show ((w.alloc (.cells #[.int .i64 n0, .int .i64 n1, .int .i64 n2, .slice (some ⟨ba, oa, none⟩) L ca] 26)).alloc (.cells #[.int .i64 n0, .int .i64 n1, .int .i64 n2, .slice (some ⟨bb, ob, none⟩) L cb] 26)).rowIs (w.heap.size + 1) 26 4 (v4 n0 n1 n2 (.slice (some ⟨bb, ob, none⟩) L cb)) by
      have := v4_row (w.alloc (.cells #[.int .i64 n0, .int .i64 n1, .int .i64 n2, .slice (some ⟨ba, oa, none⟩) L ca] 26)) n0 n1 n2 (.slice (some ⟨bb, ob, none⟩) L cb)
      simp only [World.size_alloc] at this
      exact this).of_block (hb1.block _ (by simp))) (.nil _)))
  have HB := Lib.hid (show Below w.heap.size w W1 from Below.trans (show Below w.heap.size w ((w.alloc (.cells #[.int .i64 n0, .int .i64 n1, .int .i64 n2, .slice (some ⟨ba, oa, none⟩) L ca] 26)).alloc (.cells #[.int .i64 n0, .int .i64 n1, .int .i64 n2, .slice (some ⟨bb, ob, none⟩) L cb] 26)) from (by repeat (first | assumption | exact Below.refl _ _ | refine below_drewN ?_ _ | refine Below.drew ?_ | refine Below.alloc ?_ (by first | (simp; done) | (simp; omega) | omega) _ | refine Below.setCell ?_ (by first | (simp; done) | (simp; omega) | omega) _))) (hb1.mono (by simp; omega)))
  clear hb1
  have a0 : W1.cell? ⟨w.heap.size, 0, none⟩ = some (.int .i64 n0) := (show World.rowIs W1 (w.heap.size) 26 4 (v4 n0 n1 n2 (.slice (some ⟨ba, oa, none⟩) L ca)) from RH.out.one 0 (by simp)).cell (i := 0) (show 0 < 4 by first | decide | assumption | omega)
  have a1 : W1.cell? ⟨w.heap.size, 1, none⟩ = some (.int .i64 n1) := (show World.rowIs W1 (w.heap.size) 26 4 (v4 n0 n1 n2 (.slice (some ⟨ba, oa, none⟩) L ca)) from RH.out.one 0 (by simp)).cell (i := 1) (show 1 < 4 by first | decide | assumption | omega)
  have a2 : W1.cell? ⟨w.heap.size, 2, none⟩ = some (.int .i64 n2) := (show World.rowIs W1 (w.heap.size) 26 4 (v4 n0 n1 n2 (.slice (some ⟨ba, oa, none⟩) L ca)) from RH.out.one 0 (by simp)).cell (i := 2) (show 2 < 4 by first | decide | assumption | omega)
  have a3 : W1.cell? ⟨w.heap.size, 3, none⟩ = some (.slice (some ⟨ba, oa, none⟩) L ca) := (show World.rowIs W1 (w.heap.size) 26 4 (v4 n0 n1 n2 (.slice (some ⟨ba, oa, none⟩) L ca)) from RH.out.one 0 (by simp)).cell (i := 3) (show 3 < 4 by first | decide | assumption | omega)
  have b0 : W1.cell? ⟨w.heap.size + 1, 0, none⟩ = some (.int .i64 n0) := (show World.rowIs W1 (w.heap.size + 1) 26 4 (v4 n0 n1 n2 (.slice (some ⟨bb, ob, none⟩) L cb)) from RH.out.one 1 (by simp)).cell (i := 0) (show 0 < 4 by first | decide | assumption | omega)
  have b1 : W1.cell? ⟨w.heap.size + 1, 1, none⟩ = some (.int .i64 n1) := (show World.rowIs W1 (w.heap.size + 1) 26 4 (v4 n0 n1 n2 (.slice (some ⟨bb, ob, none⟩) L cb)) from RH.out.one 1 (by simp)).cell (i := 1) (show 1 < 4 by first | decide | assumption | omega)
  have b2 : W1.cell? ⟨w.heap.size + 1, 2, none⟩ = some (.int .i64 n2) := (show World.rowIs W1 (w.heap.size + 1) 26 4 (v4 n0 n1 n2 (.slice (some ⟨bb, ob, none⟩) L cb)) from RH.out.one 1 (by simp)).cell (i := 2) (show 2 < 4 by first | decide | assumption | omega)
  have b3 : W1.cell? ⟨w.heap.size + 1, 3, none⟩ = some (.slice (some ⟨bb, ob, none⟩) L cb) := (show World.rowIs W1 (w.heap.size + 1) 26 4 (v4 n0 n1 n2 (.slice (some ⟨bb, ob, none⟩) L cb)) from RH.out.one 1 (by simp)).cell (i := 3) (show 3 < 4 by first | decide | assumption | omega)
  have la : w.heap.size < W1.heap.size := (show World.rowIs W1 (w.heap.size) 26 4 (v4 n0 n1 n2 (.slice (some ⟨ba, oa, none⟩) L ca)) from RH.out.one 0 (by simp)).lt
  have lb : w.heap.size + 1 < W1.heap.size := (show World.rowIs W1 (w.heap.size + 1) 26 4 (v4 n0 n1 n2 (.slice (some ⟨bb, ob, none⟩) L cb)) from RH.out.one 1 (by simp)).lt
  go_wp2_with fail
  refine (FAB.out _ HB.out).mono ?_
  rintro e W2 ⟨⟨g1, rfl, hg1, hr1⟩, hb2⟩
  clear a0 a1 a2 a3 b0 b1 b2 b3 la lb
  have hbx := hb2
  replace RH := Lib.hid (show Has [⟨g1, 3, L, fun i => .int .i64 (foldZ n0 n1 n2 V W i)⟩, ⟨w.heap.size, 26, 4, v4 n0 n1 n2 (.slice (some ⟨ba, oa, none⟩) L ca)⟩, ⟨w.heap.size + 1, 26, 4, v4 n0 n1 n2 (.slice (some ⟨bb, ob, none⟩) L cb)⟩] W2 from .cons (hr1) (RH.out.step hbx))
  replace HB := Lib.hid (HB.out.trans (hbx.mono HB.out.size))
  clear hbx hb2
  clear hg1 hr1
  have a0 : W2.cell? ⟨w.heap.size, 0, none⟩ = some (.int .i64 n0) := (show World.rowIs W2 (w.heap.size) 26 4 (v4 n0 n1 n2 (.slice (some ⟨ba, oa, none⟩) L ca)) from RH.out.one 1 (by simp)).cell (i := 0) (show 0 < 4 by first | decide | assumption | omega)
  have a1 : W2.cell? ⟨w.heap.size, 1, none⟩ = some (.int .i64 n1) := (show World.rowIs W2 (w.heap.size) 26 4 (v4 n0 n1 n2 (.slice (some ⟨ba, oa, none⟩) L ca)) from RH.out.one 1 (by simp)).cell (i := 1) (show 1 < 4 by first | decide | assumption | omega)
  have a2 : W2.cell? ⟨w.heap.size, 2, none⟩ = some (.int .i64 n2) := (show World.rowIs W2 (w.heap.size) 26 4 (v4 n0 n1 n2 (.slice (some ⟨ba, oa, none⟩) L ca)) from RH.out.one 1 (by simp)).cell (i := 2) (show 2 < 4 by first | decide | assumption | omega)
  have a3 : W2.cell? ⟨w.heap.size, 3, none⟩ = some (.slice (some ⟨ba, oa, none⟩) L ca) := (show World.rowIs W2 (w.heap.size) 26 4 (v4 n0 n1 n2 (.slice (some ⟨ba, oa, none⟩) L ca)) from RH.out.one 1 (by simp)).cell (i := 3) (show 3 < 4 by first | decide | assumption | omega)
  have b0 : W2.cell? ⟨w.heap.size + 1, 0, none⟩ = some (.int .i64 n0) := (show World.rowIs W2 (w.heap.size + 1) 26 4 (v4 n0 n1 n2 (.slice (some ⟨bb, ob, none⟩) L cb)) from RH.out.one 2 (by simp)).cell (i := 0) (show 0 < 4 by first | decide | assumption | omega)
  have b1 : W2.cell? ⟨w.heap.size + 1, 1, none⟩ = some (.int .i64 n1) := (show World.rowIs W2 (w.heap.size + 1) 26 4 (v4 n0 n1 n2 (.slice (some ⟨bb, ob, none⟩) L cb)) from RH.out.one 2 (by simp)).cell (i := 1) (show 1 < 4 by first | decide | assumption | omega)
  have b2 : W2.cell? ⟨w.heap.size + 1, 2, none⟩ = some (.int .i64 n2) := (show World.rowIs W2 (w.heap.size + 1) 26 4 (v4 n0 n1 n2 (.slice (some ⟨bb, ob, none⟩) L cb)) from RH.out.one 2 (by simp)).cell (i := 2) (show 2 < 4 by first | decide | assumption | omega)
  have b3 : W2.cell? ⟨w.heap.size + 1, 3, none⟩ = some (.slice (some ⟨bb, ob, none⟩) L cb) := (show World.rowIs W2 (w.heap.size + 1) 26 4 (v4 n0 n1 n2 (.slice (some ⟨bb, ob, none⟩) L cb)) from RH.out.one 2 (by simp)).cell (i := 3) (show 3 < 4 by first | decide | assumption | omega)
  have la : w.heap.size < W2.heap.size := (show World.rowIs W2 (w.heap.size) 26 4 (v4 n0 n1 n2 (.slice (some ⟨ba, oa, none⟩) L ca)) from RH.out.one 1 (by simp)).lt
  have lb : w.heap.size + 1 < W2.heap.size := (show World.rowIs W2 (w.heap.size + 1) 26 4 (v4 n0 n1 n2 (.slice (some ⟨bb, ob, none⟩) L cb)) from RH.out.one 2 (by simp)).lt
  go_wp2_with fail
  refine (FBA.out _ (HB.out.trans (Below.mono (B := W2.heap.size) (by repeat (first | assumption | exact Below.refl _ _ | refine below_drewN ?_ _ | refine Below.drew ?_ | refine Below.alloc ?_ (by first | (simp; done) | (simp; omega) | omega) _ | refine Below.setCell ?_ (by first | (simp; done) | (simp; omega) | omega) _)) HB.out.size))).mono ?_
  rintro e W3 ⟨⟨g2, rfl, hg2, hr2⟩, hb3⟩
  clear a0 a1 a2 a3 b0 b1 b2 b3 la lb
  have hbx : Below W2.heap.size W2 W3 := Below.trans (show Below W2.heap.size W2 (W2.alloc (.cells #[.int .i64 n0, .int .i64 n1, .int .i64 n2, .slice (some ⟨g1, 0, none⟩) L L] 26)) from (by repeat (first | assumption | exact Below.refl _ _ | refine below_drewN ?_ _ | refine Below.drew ?_ | refine Below.alloc ?_ (by first | (simp; done) | (simp; omega) | omega) _ | refine Below.setCell ?_ (by first | (simp; done) | (simp; omega) | omega) _))) (hb3.mono (by first | (simp; done) | (simp; omega)))
  replace RH := Lib.hid (show Has [⟨g2, 3, L, fun i => .int .i64 (foldZ n0 n1 n2 V W i)⟩, ⟨W2.heap.size, 26, 4, v4 n0 n1 n2 (.slice (some ⟨g1, 0, none⟩) L L)⟩, ⟨g1, 3, L, fun i => .int .i64 (foldZ n0 n1 n2 V W i)⟩, ⟨w.heap.size, 26, 4, v4 n0 n1 n2 (.slice (some ⟨ba, oa, none⟩) L ca)⟩, ⟨w.heap.size + 1, 26, 4, v4 n0 n1 n2 (.slice (some ⟨bb, ob, none⟩) L cb)⟩] W3 from .cons (hr2) (.cons ((v4_row W2 n0 n1 n2 (.slice (some ⟨g1, 0, none⟩) L L)).of_block (hb3.block _ (by first | (simp; done) | (simp; omega)))) (RH.out.step hbx)))
  replace HB := Lib.hid (HB.out.trans (hbx.mono HB.out.size))
  clear hbx hb3
  clear hg2 hr2
  have q0 : W3.cell? ⟨W2.heap.size, 0, none⟩ = some (.int .i64 n0) := (show World.rowIs W3 (W2.heap.size) 26 4 (v4 n0 n1 n2 (.slice (some ⟨g1, 0, none⟩) L L)) from RH.out.one 1 (by simp)).cell (i := 0) (show 0 < 4 by first | decide | assumption | omega)
  have q1 : W3.cell? ⟨W2.heap.size, 1, none⟩ = some (.int .i64 n1) := (show World.rowIs W3 (W2.heap.size) 26 4 (v4 n0 n1 n2 (.slice (some ⟨g1, 0, none⟩) L L)) from RH.out.one 1 (by simp)).cell (i := 1) (show 1 < 4 by first | decide | assumption | omega)
  have q2 : W3.cell? ⟨W2.heap.size, 2, none⟩ = some (.int .i64 n2) := (show World.rowIs W3 (W2.heap.size) 26 4 (v4 n0 n1 n2 (.slice (some ⟨g1, 0, none⟩) L L)) from RH.out.one 1 (by simp)).cell (i := 2) (show 2 < 4 by first | decide | assumption | omega)
  have q3 : W3.cell? ⟨W2.heap.size, 3, none⟩ = some (.slice (some ⟨g1, 0, none⟩) L L) := (show World.rowIs W3 (W2.heap.size) 26 4 (v4 n0 n1 n2 (.slice (some ⟨g1, 0, none⟩) L L)) from RH.out.one 1 (by simp)).cell (i := 3) (show 3 < 4 by first | decide | assumption | omega)
  have lq : W2.heap.size < W3.heap.size := (show World.rowIs W3 (W2.heap.size) 26 4 (v4 n0 n1 n2 (.slice (some ⟨g1, 0, none⟩) L L)) from RH.out.one 1 (by simp)).lt
  go_wp2_with fail
  refine (same_counts (n := L) (V := foldZ n0 n1 n2 V W) ((rd_row (show World.rowIs W3 (g1) 3 L (fun i => .int .i64 (foldZ n0 n1 n2 V W i)) from RH.out.one 2 (by simp))).below (by repeat (first | assumption | exact Below.refl _ _ | refine below_drewN ?_ _ | refine Below.drew ?_ | refine Below.alloc ?_ (by first | (simp; done) | (simp; omega) | omega) _ | refine Below.setCell ?_ (by first | (simp; done) | (simp; omega) | omega) _))) ((rd_row (show World.rowIs W3 (g2) 3 L (fun i => .int .i64 (foldZ n0 n1 n2 V W i)) from RH.out.one 0 (by simp))).below (by repeat (first | assumption | exact Below.refl _ _ | refine below_drewN ?_ _ | refine Below.drew ?_ | refine Below.alloc ?_ (by first | (simp; done) | (simp; omega) | omega) _ | refine Below.setCell ?_ (by first | (simp; done) | (simp; omega) | omega) _))) (by omega)).mono ?_
  rintro e W4 ⟨rfl, hb4⟩
  clear q0 q1 q2 q3 lq
  have hbx : Below W3.heap.size W3 W4 := Below.trans (show Below W3.heap.size W3 (W3.alloc (.cells #[.int .i64 n0, .int .i64 n1, .int .i64 n2, .slice (some ⟨g2, 0, none⟩) L L] 26)) from (by repeat (first | assumption | exact Below.refl _ _ | refine below_drewN ?_ _ | refine Below.drew ?_ | refine Below.alloc ?_ (by first | (simp; done) | (simp; omega) | omega) _ | refine Below.setCell ?_ (by first | (simp; done) | (simp; omega) | omega) _))) (hb4.mono (by first | (simp; done) | (simp; omega)))
  replace RH := Lib.hid (show Has [⟨g2, 3, L, fun i => .int .i64 (foldZ n0 n1 n2 V W i)⟩, ⟨W2.heap.size, 26, 4, v4 n0 n1 n2 (.slice (some ⟨g1, 0, none⟩) L L)⟩, ⟨g1, 3, L, fun i => .int .i64 (foldZ n0 n1 n2 V W i)⟩, ⟨w.heap.size, 26, 4, v4 n0 n1 n2 (.slice (some ⟨ba, oa, none⟩) L ca)⟩, ⟨w.heap.size + 1, 26, 4, v4 n0 n1 n2 (.slice (some ⟨bb, ob, none⟩) L cb)⟩] W4 from RH.out.step hbx)
  replace HB := Lib.hid (HB.out.trans (hbx.mono HB.out.size))
  clear hbx hb4
  have a0 : W4.cell? ⟨w.heap.size, 0, none⟩ = some (.int .i64 n0) := (show World.rowIs W4 (w.heap.size) 26 4 (v4 n0 n1 n2 (.slice (some ⟨ba, oa, none⟩) L ca)) from RH.out.one 3 (by simp)).cell (i := 0) (show 0 < 4 by first | decide | assumption | omega)
  have a1 : W4.cell? ⟨w.heap.size, 1, none⟩ = some (.int .i64 n1) := (show World.rowIs W4 (w.heap.size) 26 4 (v4 n0 n1 n2 (.slice (some ⟨ba, oa, none⟩) L ca)) from RH.out.one 3 (by simp)).cell (i := 1) (show 1 < 4 by first | decide | assumption | omega)
  have a2 : W4.cell? ⟨w.heap.size, 2, none⟩ = some (.int .i64 n2) := (show World.rowIs W4 (w.heap.size) 26 4 (v4 n0 n1 n2 (.slice (some ⟨ba, oa, none⟩) L ca)) from RH.out.one 3 (by simp)).cell (i := 2) (show 2 < 4 by first | decide | assumption | omega)
  have a3 : W4.cell? ⟨w.heap.size, 3, none⟩ = some (.slice (some ⟨ba, oa, none⟩) L ca) := (show World.rowIs W4 (w.heap.size) 26 4 (v4 n0 n1 n2 (.slice (some ⟨ba, oa, none⟩) L ca)) from RH.out.one 3 (by simp)).cell (i := 3) (show 3 < 4 by first | decide | assumption | omega)
  have b0 : W4.cell? ⟨w.heap.size + 1, 0, none⟩ = some (.int .i64 n0) := (show World.rowIs W4 (w.heap.size + 1) 26 4 (v4 n0 n1 n2 (.slice (some ⟨bb, ob, none⟩) L cb)) from RH.out.one 4 (by simp)).cell (i := 0) (show 0 < 4 by first | decide | assumption | omega)
  have b1 : W4.cell? ⟨w.heap.size + 1, 1, none⟩ = some (.int .i64 n1) := (show World.rowIs W4 (w.heap.size + 1) 26 4 (v4 n0 n1 n2 (.slice (some ⟨bb, ob, none⟩) L cb)) from RH.out.one 4 (by simp)).cell (i := 1) (show 1 < 4 by first | decide | assumption | omega)
  have b2 : W4.cell? ⟨w.heap.size + 1, 2, none⟩ = some (.int .i64 n2) := (show World.rowIs W4 (w.heap.size + 1) 26 4 (v4 n0 n1 n2 (.slice (some ⟨bb, ob, none⟩) L cb)) from RH.out.one 4 (by simp)).cell (i := 2) (show 2 < 4 by first | decide | assumption | omega)
  have b3 : W4.cell? ⟨w.heap.size + 1, 3, none⟩ = some (.slice (some ⟨bb, ob, none⟩) L cb) := (show World.rowIs W4 (w.heap.size + 1) 26 4 (v4 n0 n1 n2 (.slice (some ⟨bb, ob, none⟩) L cb)) from RH.out.one 4 (by simp)).cell (i := 3) (show 3 < 4 by first | decide | assumption | omega)
  have la : w.heap.size < W4.heap.size := (show World.rowIs W4 (w.heap.size) 26 4 (v4 n0 n1 n2 (.slice (some ⟨ba, oa, none⟩) L ca)) from RH.out.one 3 (by simp)).lt
  have lb : w.heap.size + 1 < W4.heap.size := (show World.rowIs W4 (w.heap.size + 1) 26 4 (v4 n0 n1 n2 (.slice (some ⟨bb, ob, none⟩) L cb)) from RH.out.one 4 (by simp)).lt
  go_wp2_with fail
  refine (FEW.out _ HB.out).mono ?_
  rintro e W5 ⟨rfl, hb5⟩
  clear a0 a1 a2 a3 b0 b1 b2 b3 la lb
  have hbx := hb5
  replace RH := Lib.hid (show Has [⟨g2, 3, L, fun i => .int .i64 (foldZ n0 n1 n2 V W i)⟩, ⟨W2.heap.size, 26, 4, v4 n0 n1 n2 (.slice (some ⟨g1, 0, none⟩) L L)⟩, ⟨g1, 3, L, fun i => .int .i64 (foldZ n0 n1 n2 V W i)⟩, ⟨w.heap.size, 26, 4, v4 n0 n1 n2 (.slice (some ⟨ba, oa, none⟩) L ca)⟩, ⟨w.heap.size + 1, 26, 4, v4 n0 n1 n2 (.slice (some ⟨bb, ob, none⟩) L cb)⟩] W5 from RH.out.step hbx)
  replace HB := Lib.hid (HB.out.trans (hbx.mono HB.out.size))
  clear hbx hb5
  cases fw
  · go_wp2
    go_ret
    exact ⟨rfl, HB.out⟩
  have hL6 := FWL.out rfl
  have hLi : (L : Int) ≤ 600 := by omega
  have a0 : W5.cell? ⟨w.heap.size, 0, none⟩ = some (.int .i64 n0) := (show World.rowIs W5 (w.heap.size) 26 4 (v4 n0 n1 n2 (.slice (some ⟨ba, oa, none⟩) L ca)) from RH.out.one 3 (by simp)).cell (i := 0) (show 0 < 4 by first | decide | assumption | omega)
  have a1 : W5.cell? ⟨w.heap.size, 1, none⟩ = some (.int .i64 n1) := (show World.rowIs W5 (w.heap.size) 26 4 (v4 n0 n1 n2 (.slice (some ⟨ba, oa, none⟩) L ca)) from RH.out.one 3 (by simp)).cell (i := 1) (show 1 < 4 by first | decide | assumption | omega)
  have a2 : W5.cell? ⟨w.heap.size, 2, none⟩ = some (.int .i64 n2) := (show World.rowIs W5 (w.heap.size) 26 4 (v4 n0 n1 n2 (.slice (some ⟨ba, oa, none⟩) L ca)) from RH.out.one 3 (by simp)).cell (i := 2) (show 2 < 4 by first | decide | assumption | omega)
  have a3 : W5.cell? ⟨w.heap.size, 3, none⟩ = some (.slice (some ⟨ba, oa, none⟩) L ca) := (show World.rowIs W5 (w.heap.size) 26 4 (v4 n0 n1 n2 (.slice (some ⟨ba, oa, none⟩) L ca)) from RH.out.one 3 (by simp)).cell (i := 3) (show 3 < 4 by first | decide | assumption | omega)
  have b0 : W5.cell? ⟨w.heap.size + 1, 0, none⟩ = some (.int .i64 n0) := (show World.rowIs W5 (w.heap.size + 1) 26 4 (v4 n0 n1 n2 (.slice (some ⟨bb, ob, none⟩) L cb)) from RH.out.one 4 (by simp)).cell (i := 0) (show 0 < 4 by first | decide | assumption | omega)
  have b1 : W5.cell? ⟨w.heap.size + 1, 1, none⟩ = some (.int .i64 n1) := (show World.rowIs W5 (w.heap.size + 1) 26 4 (v4 n0 n1 n2 (.slice (some ⟨bb, ob, none⟩) L cb)) from RH.out.one 4 (by simp)).cell (i := 1) (show 1 < 4 by first | decide | assumption | omega)
  have b2 : W5.cell? ⟨w.heap.size + 1, 2, none⟩ = some (.int .i64 n2) := (show World.rowIs W5 (w.heap.size + 1) 26 4 (v4 n0 n1 n2 (.slice (some ⟨bb, ob, none⟩) L cb)) from RH.out.one 4 (by simp)).cell (i := 2) (show 2 < 4 by first | decide | assumption | omega)
  have b3 : W5.cell? ⟨w.heap.size + 1, 3, none⟩ = some (.slice (some ⟨bb, ob, none⟩) L cb) := (show World.rowIs W5 (w.heap.size + 1) 26 4 (v4 n0 n1 n2 (.slice (some ⟨bb, ob, none⟩) L cb)) from RH.out.one 4 (by simp)).cell (i := 3) (show 3 < 4 by first | decide | assumption | omega)
  have la : w.heap.size < W5.heap.size := (show World.rowIs W5 (w.heap.size) 26 4 (v4 n0 n1 n2 (.slice (some ⟨ba, oa, none⟩) L ca)) from RH.out.one 3 (by simp)).lt
  have lb : w.heap.size + 1 < W5.heap.size := (show World.rowIs W5 (w.heap.size + 1) 26 4 (v4 n0 n1 n2 (.slice (some ⟨bb, ob, none⟩) L cb)) from RH.out.one 4 (by simp)).lt
  have q0 : W5.cell? ⟨W2.heap.size, 0, none⟩ = some (.int .i64 n0) := (show World.rowIs W5 (W2.heap.size) 26 4 (v4 n0 n1 n2 (.slice (some ⟨g1, 0, none⟩) L L)) from RH.out.one 1 (by simp)).cell (i := 0) (show 0 < 4 by first | decide | assumption | omega)
  have q1 : W5.cell? ⟨W2.heap.size, 1, none⟩ = some (.int .i64 n1) := (show World.rowIs W5 (W2.heap.size) 26 4 (v4 n0 n1 n2 (.slice (some ⟨g1, 0, none⟩) L L)) from RH.out.one 1 (by simp)).cell (i := 1) (show 1 < 4 by first | decide | assumption | omega)
  have q2 : W5.cell? ⟨W2.heap.size, 2, none⟩ = some (.int .i64 n2) := (show World.rowIs W5 (W2.heap.size) 26 4 (v4 n0 n1 n2 (.slice (some ⟨g1, 0, none⟩) L L)) from RH.out.one 1 (by simp)).cell (i := 2) (show 2 < 4 by first | decide | assumption | omega)
  have q3 : W5.cell? ⟨W2.heap.size, 3, none⟩ = some (.slice (some ⟨g1, 0, none⟩) L L) := (show World.rowIs W5 (W2.heap.size) 26 4 (v4 n0 n1 n2 (.slice (some ⟨g1, 0, none⟩) L L)) from RH.out.one 1 (by simp)).cell (i := 3) (show 3 < 4 by first | decide | assumption | omega)
  have lq : W2.heap.size < W5.heap.size := (show World.rowIs W5 (W2.heap.size) 26 4 (v4 n0 n1 n2 (.slice (some ⟨g1, 0, none⟩) L L)) from RH.out.one 1 (by simp)).lt
  have SMC := Lib.hid (fun w' (hb : Below W5.heap.size W5 w') => sum_any n0 n1 n2 _ L _ w' ((rd_row (show World.rowIs W5 (g1) 3 L (fun i => .int .i64 (foldZ n0 n1 n2 V W i)) from RH.out.one 2 (by simp))).below hb) hL6 (FZB.out hL6))
  have SMA := Lib.hid (fun w' (hb : Below W5.heap.size W5 w') => sum_any n0 n1 n2 _ L _ w' (RA.out w' (HB.out.trans (hb.mono HB.out.size))) hL6 FAB1.out)
  have SMB := Lib.hid (fun w' (hb : Below W5.heap.size W5 w') => sum_any n0 n1 n2 _ L _ w' (RB.out w' (HB.out.trans (hb.mono HB.out.size))) hL6 FBB1.out)
  rw [SZ.out] at SMC
  have hmul : IntKind.i64.wrap (sA * sB) = sA * sB := SAB.out hL6
  rw [← ESA.out] at SMA
  rw [← ESB.out] at SMB
  go_wp2
  refine region_all (by kernel_rfl) (by kernel_rfl) ?_
  repeat (go_big_quiet_step ((go_at_call 18; first | with_reducible exact held_of _ (Nat.le_refl _) (SMC.out _ (BelowW.below _)) | with_reducible exact held_of _ (Nat.le_refl _) (SMA.out _ (BelowW.below _)) | with_reducible exact held_of _ (Nat.le_refl _) (SMB.out _ (BelowW.below _)))))
  refine wpQuiet_nil ?_
  rintro w6 ⟨⟨w0, hb⟩, rfl⟩
  clear a0 a1 a2 a3 b0 b1 b2 b3 la lb
  clear q0 q1 q2 q3 lq SMC SMA SMB hmul
  have hbx := hb
  replace RH := Lib.hid (show Has [⟨g2, 3, L, fun i => .int .i64 (foldZ n0 n1 n2 V W i)⟩, ⟨W2.heap.size, 26, 4, v4 n0 n1 n2 (.slice (some ⟨g1, 0, none⟩) L L)⟩, ⟨g1, 3, L, fun i => .int .i64 (foldZ n0 n1 n2 V W i)⟩, ⟨w.heap.size, 26, 4, v4 n0 n1 n2 (.slice (some ⟨ba, oa, none⟩) L ca)⟩, ⟨w.heap.size + 1, 26, 4, v4 n0 n1 n2 (.slice (some ⟨bb, ob, none⟩) L cb)⟩] w6 from RH.out.step hbx)
  replace HB := Lib.hid (HB.out.trans (hbx.mono HB.out.size))
  clear hbx hb
  have a0 : w6.cell? ⟨w.heap.size, 0, none⟩ = some (.int .i64 n0) := (show World.rowIs w6 (w.heap.size) 26 4 (v4 n0 n1 n2 (.slice (some ⟨ba, oa, none⟩) L ca)) from RH.out.one 3 (by simp)).cell (i := 0) (show 0 < 4 by first | decide | assumption | omega)
  have a1 : w6.cell? ⟨w.heap.size, 1, none⟩ = some (.int .i64 n1) := (show World.rowIs w6 (w.heap.size) 26 4 (v4 n0 n1 n2 (.slice (some ⟨ba, oa, none⟩) L ca)) from RH.out.one 3 (by simp)).cell (i := 1) (show 1 < 4 by first | decide | assumption | omega)
  have a2 : w6.cell? ⟨w.heap.size, 2, none⟩ = some (.int .i64 n2) := (show World.rowIs w6 (w.heap.size) 26 4 (v4 n0 n1 n2 (.slice (some ⟨ba, oa, none⟩) L ca)) from RH.out.one 3 (by simp)).cell (i := 2) (show 2 < 4 by first | decide | assumption | omega)
  have a3 : w6.cell? ⟨w.heap.size, 3, none⟩ = some (.slice (some ⟨ba, oa, none⟩) L ca) := (show World.rowIs w6 (w.heap.size) 26 4 (v4 n0 n1 n2 (.slice (some ⟨ba, oa, none⟩) L ca)) from RH.out.one 3 (by simp)).cell (i := 3) (show 3 < 4 by first | decide | assumption | omega)
  have b0 : w6.cell? ⟨w.heap.size + 1, 0, none⟩ = some (.int .i64 n0) := (show World.rowIs w6 (w.heap.size + 1) 26 4 (v4 n0 n1 n2 (.slice (some ⟨bb, ob, none⟩) L cb)) from RH.out.one 4 (by simp)).cell (i := 0) (show 0 < 4 by first | decide | assumption | omega)
  have b1 : w6.cell? ⟨w.heap.size + 1, 1, none⟩ = some (.int .i64 n1) := (show World.rowIs w6 (w.heap.size + 1) 26 4 (v4 n0 n1 n2 (.slice (some ⟨bb, ob, none⟩) L cb)) from RH.out.one 4 (by simp)).cell (i := 1) (show 1 < 4 by first | decide | assumption | omega)
  have b2 : w6.cell? ⟨w.heap.size + 1, 2, none⟩ = some (.int .i64 n2) := (show World.rowIs w6 (w.heap.size + 1) 26 4 (v4 n0 n1 n2 (.slice (some ⟨bb, ob, none⟩) L cb)) from RH.out.one 4 (by simp)).cell (i := 2) (show 2 < 4 by first | decide | assumption | omega)
  have b3 : w6.cell? ⟨w.heap.size + 1, 3, none⟩ = some (.slice (some ⟨bb, ob, none⟩) L cb) := (show World.rowIs w6 (w.heap.size + 1) 26 4 (v4 n0 n1 n2 (.slice (some ⟨bb, ob, none⟩) L cb)) from RH.out.one 4 (by simp)).cell (i := 3) (show 3 < 4 by first | decide | assumption | omega)
  have la : w.heap.size < w6.heap.size := (show World.rowIs w6 (w.heap.size) 26 4 (v4 n0 n1 n2 (.slice (some ⟨ba, oa, none⟩) L ca)) from RH.out.one 3 (by simp)).lt
  have lb : w.heap.size + 1 < w6.heap.size := (show World.rowIs w6 (w.heap.size + 1) 26 4 (v4 n0 n1 n2 (.slice (some ⟨bb, ob, none⟩) L cb)) from RH.out.one 4 (by simp)).lt
  go_wp2_with fail
  refine (Mod_any k L _ HLP.out (by omega)).mono ?_
  rintro e w' ⟨rfl, rfl⟩
  obtain ⟨kk, ekk⟩ : ∃ q, q = (k % (L : Int)).toNat := ⟨_, rfl⟩
  rw [← ekk]
  have hkk : kk < L := by have := HLP.out; rw [ekk]; have h1 := Int.emod_nonneg k (show (L : Int) ≠ 0 by omega); have h2 := Int.emod_lt_of_pos k (show (0 : Int) < L by omega); omega
  clear ekk
  clear b0 b1 b2 b3 lb
  go_wp2
  obtain ⟨N6, eN6⟩ : ∃ q, q = w6.heap.size := ⟨_, rfl⟩
  have EN6 := Lib.hid eN6; clear eN6
  have hmk := mk24 L (by omega)
  have HON6 := Lib.hid (show ∀ r : Row, r ∈ ([⟨g2, 3, L, fun i => .int .i64 (foldZ n0 n1 n2 V W i)⟩, ⟨W2.heap.size, 26, 4, v4 n0 n1 n2 (.slice (some ⟨g1, 0, none⟩) L L)⟩, ⟨g1, 3, L, fun i => .int .i64 (foldZ n0 n1 n2 V W i)⟩, ⟨w.heap.size, 26, 4, v4 n0 n1 n2 (.slice (some ⟨ba, oa, none⟩) L ca)⟩, ⟨w.heap.size + 1, 26, 4, v4 n0 n1 n2 (.slice (some ⟨bb, ob, none⟩) L cb)⟩] : List Row) → r.g < N6 from by rw [EN6.out]; exact RH.out.lt)
  apply meet
  case a =>
    intro KEY
    go_region_held3 (fun w' => w'.cell? ⟨w.heap.size, 0, none⟩ = some (.int .i64 n0) ∧ w'.cell? ⟨w.heap.size, 1, none⟩ = some (.int .i64 n1) ∧ w'.cell? ⟨w.heap.size, 2, none⟩ = some (.int .i64 n2) ∧ w'.cell? ⟨w.heap.size, 3, none⟩ = some (.slice (some ⟨ba, oa, none⟩) L ca)) ((go_split_ands; (repeat' apply And.intro) <;> (first | assumption | (go_simp; done)))) (fail)
    · refine then_abs (fun X => Has [⟨w6.heap.size, 3, L, fun _ => .int .i64 0⟩, ⟨w6.heap.size + 1, 26, 4, v4 n0 n1 n2 (.slice (some ⟨w6.heap.size, 0, none⟩) L L)⟩, ⟨g2, 3, L, fun i => .int .i64 (foldZ n0 n1 n2 V W i)⟩, ⟨W2.heap.size, 26, 4, v4 n0 n1 n2 (.slice (some ⟨g1, 0, none⟩) L L)⟩, ⟨g1, 3, L, fun i => .int .i64 (foldZ n0 n1 n2 V W i)⟩, ⟨w.heap.size, 26, 4, v4 n0 n1 n2 (.slice (some ⟨ba, oa, none⟩) L ca)⟩, ⟨w.heap.size + 1, 26, 4, v4 n0 n1 n2 (.slice (some ⟨bb, ob, none⟩) L cb)⟩] X ∧ Below w.heap.size w X ∧ N6 ≤ w6.heap.size ∧ N6 ≤ w6.heap.size + 1 ∧ w6.heap.size ≠ w6.heap.size + 1) ⟨.cons (((w6.rowIs_made (.int .i64 0) L 3).alloc _).drew) (.cons ((show World.rowIs _ (w6.heap.size + 1) _ _ _ by
          have := v4_row (w6.alloc (.cells (madeCells #[.int .i64 0] L) 3)) n0 n1 n2 (.slice (some ⟨w6.heap.size, 0, none⟩) L L)
          simp only [World.size_alloc] at this
          exact this.drew)) (RH.out.step (show Below w6.heap.size w6 (((w6.alloc (.cells (madeCells #[.int .i64 0] L) 3)).alloc (.cells #[.int .i64 n0, .int .i64 n1, .int .i64 n2, .slice (some ⟨w6.heap.size, 0, none⟩) L L] 26)).drew) from (by repeat (first | assumption | exact Below.refl _ _ | refine below_drewN ?_ _ | refine Below.drew ?_ | refine Below.alloc ?_ (by first | (simp; done) | (simp; omega) | omega) _ | refine Below.setCell ?_ (by first | (simp; done) | (simp; omega) | omega) _))))), HB.out.trans (Below.mono (show Below w6.heap.size w6 (((w6.alloc (.cells (madeCells #[.int .i64 0] L) 3)).alloc (.cells #[.int .i64 n0, .int .i64 n1, .int .i64 n2, .slice (some ⟨w6.heap.size, 0, none⟩) L L] 26)).drew) from (by repeat (first | assumption | exact Below.refl _ _ | refine below_drewN ?_ _ | refine Below.drew ?_ | refine Below.alloc ?_ (by first | (simp; done) | (simp; omega) | omega) _ | refine Below.setCell ?_ (by first | (simp; done) | (simp; omega) | omega) _))) HB.out.size), by rw [EN6.out]; omega, by rw [EN6.out]; omega, by omega⟩ ?_
      generalize w6.heap.size + 1 = gc
      generalize w6.heap.size = gs
      revert gs
      revert gc
      exact KEY.out
    · refine then_abs (fun X => Has [⟨w6.heap.size + 1, 3, L, fun _ => .int .i64 0⟩, ⟨w6.heap.size, 26, 4, v4 n0 n1 n2 (.slice (some ⟨w6.heap.size + 1, 0, none⟩) L L)⟩, ⟨g2, 3, L, fun i => .int .i64 (foldZ n0 n1 n2 V W i)⟩, ⟨W2.heap.size, 26, 4, v4 n0 n1 n2 (.slice (some ⟨g1, 0, none⟩) L L)⟩, ⟨g1, 3, L, fun i => .int .i64 (foldZ n0 n1 n2 V W i)⟩, ⟨w.heap.size, 26, 4, v4 n0 n1 n2 (.slice (some ⟨ba, oa, none⟩) L ca)⟩, ⟨w.heap.size + 1, 26, 4, v4 n0 n1 n2 (.slice (some ⟨bb, ob, none⟩) L cb)⟩] X ∧ Below w.heap.size w X ∧ N6 ≤ w6.heap.size + 1 ∧ N6 ≤ w6.heap.size ∧ w6.heap.size + 1 ≠ w6.heap.size) ⟨.cons ((show World.rowIs _ (w6.heap.size + 1) _ _ _ by
          have := (w6.alloc (.cells #[.int .i64 n0, .int .i64 n1, .int .i64 n2, .slice (some ⟨w6.heap.size + 1, 0, none⟩) L L] 26)).rowIs_made (.int .i64 0) L 3
          simp only [World.size_alloc] at this
          exact this.drew)) (.cons (((v4_row w6 n0 n1 n2 (.slice (some ⟨w6.heap.size + 1, 0, none⟩) L L)).alloc _).drew) (RH.out.step (show Below w6.heap.size w6 (((w6.alloc (.cells #[.int .i64 n0, .int .i64 n1, .int .i64 n2, .slice (some ⟨w6.heap.size + 1, 0, none⟩) L L] 26)).alloc (.cells (madeCells #[.int .i64 0] L) 3)).drew) from (by repeat (first | assumption | exact Below.refl _ _ | refine below_drewN ?_ _ | refine Below.drew ?_ | refine Below.alloc ?_ (by first | (simp; done) | (simp; omega) | omega) _ | refine Below.setCell ?_ (by first | (simp; done) | (simp; omega) | omega) _))))), HB.out.trans (Below.mono (show Below w6.heap.size w6 (((w6.alloc (.cells #[.int .i64 n0, .int .i64 n1, .int .i64 n2, .slice (some ⟨w6.heap.size + 1, 0, none⟩) L L] 26)).alloc (.cells (madeCells #[.int .i64 0] L) 3)).drew) from (by repeat (first | assumption | exact Below.refl _ _ | refine below_drewN ?_ _ | refine Below.drew ?_ | refine Below.alloc ?_ (by first | (simp; done) | (simp; omega) | omega) _ | refine Below.setCell ?_ (by first | (simp; done) | (simp; omega) | omega) _))) HB.out.size), by rw [EN6.out]; omega, by rw [EN6.out]; omega, by omega⟩ ?_
      generalize w6.heap.size + 1 = gs
      generalize w6.heap.size = gc
      revert gs
      revert gc
      exact KEY.out
  case b =>
    intro gc gs X6 hX
    obtain ⟨h1, h2, haN6, hbN6, hnN6⟩ := hX
    have RH := Lib.hid h1; have HB := Lib.hid h2
    clear h1 h2
    clear a0 a1 a2 a3 la hmk
    have a0 : X6.cell? ⟨w.heap.size, 0, none⟩ = some (.int .i64 n0) := (show World.rowIs X6 (w.heap.size) 26 4 (v4 n0 n1 n2 (.slice (some ⟨ba, oa, none⟩) L ca)) from RH.out.one 5 (by simp)).cell (i := 0) (show 0 < 4 by first | decide | assumption | omega)
    have a1 : X6.cell? ⟨w.heap.size, 1, none⟩ = some (.int .i64 n1) := (show World.rowIs X6 (w.heap.size) 26 4 (v4 n0 n1 n2 (.slice (some ⟨ba, oa, none⟩) L ca)) from RH.out.one 5 (by simp)).cell (i := 1) (show 1 < 4 by first | decide | assumption | omega)
    have a2 : X6.cell? ⟨w.heap.size, 2, none⟩ = some (.int .i64 n2) := (show World.rowIs X6 (w.heap.size) 26 4 (v4 n0 n1 n2 (.slice (some ⟨ba, oa, none⟩) L ca)) from RH.out.one 5 (by simp)).cell (i := 2) (show 2 < 4 by first | decide | assumption | omega)
    have a3 : X6.cell? ⟨w.heap.size, 3, none⟩ = some (.slice (some ⟨ba, oa, none⟩) L ca) := (show World.rowIs X6 (w.heap.size) 26 4 (v4 n0 n1 n2 (.slice (some ⟨ba, oa, none⟩) L ca)) from RH.out.one 5 (by simp)).cell (i := 3) (show 3 < 4 by first | decide | assumption | omega)
    have la : w.heap.size < X6.heap.size := (show World.rowIs X6 (w.heap.size) 26 4 (v4 n0 n1 n2 (.slice (some ⟨ba, oa, none⟩) L ca)) from RH.out.one 5 (by simp)).lt
    have o0 : X6.cell? ⟨gc, 0, none⟩ = some (.int .i64 n0) := (show World.rowIs X6 (gc) 26 4 (v4 n0 n1 n2 (.slice (some ⟨gs, 0, none⟩) L L)) from RH.out.one 1 (by simp)).cell (i := 0) (show 0 < 4 by first | decide | assumption | omega)
    have o1 : X6.cell? ⟨gc, 1, none⟩ = some (.int .i64 n1) := (show World.rowIs X6 (gc) 26 4 (v4 n0 n1 n2 (.slice (some ⟨gs, 0, none⟩) L L)) from RH.out.one 1 (by simp)).cell (i := 1) (show 1 < 4 by first | decide | assumption | omega)
    have o2 : X6.cell? ⟨gc, 2, none⟩ = some (.int .i64 n2) := (show World.rowIs X6 (gc) 26 4 (v4 n0 n1 n2 (.slice (some ⟨gs, 0, none⟩) L L)) from RH.out.one 1 (by simp)).cell (i := 2) (show 2 < 4 by first | decide | assumption | omega)
    have o3 : X6.cell? ⟨gc, 3, none⟩ = some (.slice (some ⟨gs, 0, none⟩) L L) := (show World.rowIs X6 (gc) 26 4 (v4 n0 n1 n2 (.slice (some ⟨gs, 0, none⟩) L L)) from RH.out.one 1 (by simp)).cell (i := 3) (show 3 < 4 by first | decide | assumption | omega)
    have lo : gc < X6.heap.size := (show World.rowIs X6 (gc) 26 4 (v4 n0 n1 n2 (.slice (some ⟨gs, 0, none⟩) L L)) from RH.out.one 1 (by simp)).lt
    have lg : gs < X6.heap.size := (show World.rowIs X6 (gs) 3 L (fun _ => .int .i64 0) from RH.out.one 0 (by simp)).lt
    have fg : X6.frozen? ⟨gs, kk, none⟩ = false := (show World.rowIs X6 (gs) 3 L (fun _ => .int .i64 0) from RH.out.one 0 (by simp)).frozen kk
    have hcg : X6.cell? ⟨gs, kk, none⟩ = some (.int .i64 0) := (show World.rowIs X6 (gs) 3 L (fun _ => .int .i64 0) from RH.out.one 0 (by simp)).cell hkk
    have hkl : (kk : Int) < (L : Int) := by omega
    have hk0 : (0 : Int) ≤ (kk : Int) := by omega
    have hn1 : ¬ gs = w.heap.size := by have : w.heap.size < N6 := HON6.out ⟨w.heap.size, 26, 4, v4 n0 n1 n2 (.slice (some ⟨ba, oa, none⟩) L ca)⟩ (by simp); omega
    have RH6 := Lib.hid (show Has [⟨gs, 3, L, fun i => .int .i64 (lone kk i)⟩, ⟨gc, 26, 4, v4 n0 n1 n2 (.slice (some ⟨gs, 0, none⟩) L L)⟩, ⟨g2, 3, L, fun i => .int .i64 (foldZ n0 n1 n2 V W i)⟩, ⟨W2.heap.size, 26, 4, v4 n0 n1 n2 (.slice (some ⟨g1, 0, none⟩) L L)⟩, ⟨g1, 3, L, fun i => .int .i64 (foldZ n0 n1 n2 V W i)⟩, ⟨w.heap.size, 26, 4, v4 n0 n1 n2 (.slice (some ⟨ba, oa, none⟩) L ca)⟩, ⟨w.heap.size + 1, 26, 4, v4 n0 n1 n2 (.slice (some ⟨bb, ob, none⟩) L cb)⟩] (X6.setCell ⟨gs, kk, none⟩ (.int .i64 1)) from RH.out.put kk _ (List.forall_mem_cons.2 ⟨fun e => hnN6 e.symm, fun r hr => Nat.ne_of_lt (Nat.lt_of_lt_of_le (HON6.out r hr) haN6)⟩) (fun i _ => by unfold lone; split <;> rfl))
    have HB6 := Lib.hid (show Below w.heap.size w (X6.setCell ⟨gs, kk, none⟩ (.int .i64 1)) from HB.out.setCell (by have : w.heap.size < N6 := HON6.out ⟨w.heap.size, 26, 4, v4 n0 n1 n2 (.slice (some ⟨ba, oa, none⟩) L ca)⟩ (by simp); simp only; omega) _)
    clear RH HB
    have RH := RH6; have HB := HB6
    clear RH6 HB6
    simp only [Exit.then]
    go_wp2_with fail
    refine (FOLD.out (lone kk) (fun i _ => by unfold lone; split <;> omega) gs 0 L _ HB.out (by rw [World.size_setCell]; exact lg) (fun i hi => by rw [Nat.zero_add]; exact (show World.rowIs (X6.setCell ⟨gs, kk, none⟩ (.int .i64 1)) (gs) 3 L (fun i => .int .i64 (lone kk i)) from RH.out.one 0 (by simp)).cell hi)).mono ?_
    rintro e W7 ⟨⟨gm, rfl, hg7, hr7⟩, hb7⟩
    clear a0 a1 a2 a3 la
    clear o0 o1 o2 o3 lo lg fg hcg hn1 hg7
    have hbx := hb7
    replace RH := Lib.hid (show Has [⟨gm, 3, L, fun i => .int .i64 (foldZ n0 n1 n2 V (lone kk) i)⟩, ⟨gs, 3, L, fun i => .int .i64 (lone kk i)⟩, ⟨gc, 26, 4, v4 n0 n1 n2 (.slice (some ⟨gs, 0, none⟩) L L)⟩, ⟨g2, 3, L, fun i => .int .i64 (foldZ n0 n1 n2 V W i)⟩, ⟨W2.heap.size, 26, 4, v4 n0 n1 n2 (.slice (some ⟨g1, 0, none⟩) L L)⟩, ⟨g1, 3, L, fun i => .int .i64 (foldZ n0 n1 n2 V W i)⟩, ⟨w.heap.size, 26, 4, v4 n0 n1 n2 (.slice (some ⟨ba, oa, none⟩) L ca)⟩, ⟨w.heap.size + 1, 26, 4, v4 n0 n1 n2 (.slice (some ⟨bb, ob, none⟩) L cb)⟩] W7 from .cons (hr7) (RH.out.step hbx))
    replace HB := Lib.hid (HB.out.trans (hbx.mono HB.out.size))
    clear hbx hb7
    clear hr7
    have a0 : W7.cell? ⟨w.heap.size, 0, none⟩ = some (.int .i64 n0) := (show World.rowIs W7 (w.heap.size) 26 4 (v4 n0 n1 n2 (.slice (some ⟨ba, oa, none⟩) L ca)) from RH.out.one 6 (by simp)).cell (i := 0) (show 0 < 4 by first | decide | assumption | omega)
    have a1 : W7.cell? ⟨w.heap.size, 1, none⟩ = some (.int .i64 n1) := (show World.rowIs W7 (w.heap.size) 26 4 (v4 n0 n1 n2 (.slice (some ⟨ba, oa, none⟩) L ca)) from RH.out.one 6 (by simp)).cell (i := 1) (show 1 < 4 by first | decide | assumption | omega)
    have a2 : W7.cell? ⟨w.heap.size, 2, none⟩ = some (.int .i64 n2) := (show World.rowIs W7 (w.heap.size) 26 4 (v4 n0 n1 n2 (.slice (some ⟨ba, oa, none⟩) L ca)) from RH.out.one 6 (by simp)).cell (i := 2) (show 2 < 4 by first | decide | assumption | omega)
    have a3 : W7.cell? ⟨w.heap.size, 3, none⟩ = some (.slice (some ⟨ba, oa, none⟩) L ca) := (show World.rowIs W7 (w.heap.size) 26 4 (v4 n0 n1 n2 (.slice (some ⟨ba, oa, none⟩) L ca)) from RH.out.one 6 (by simp)).cell (i := 3) (show 3 < 4 by first | decide | assumption | omega)
    have la : w.heap.size < W7.heap.size := (show World.rowIs W7 (w.heap.size) 26 4 (v4 n0 n1 n2 (.slice (some ⟨ba, oa, none⟩) L ca)) from RH.out.one 6 (by simp)).lt
    go_wp2_with fail
    refine (At_any n0 n1 n2 kk _ ⟨HBX.out.h1.1, HBX.out.h1.2.2⟩ ⟨HBX.out.h2.1, HBX.out.h2.2.2⟩ (by omega)).mono ?_
    rintro e W8 ⟨rfl, hb8⟩
    clear a0 a1 a2 a3 la
    have hbx : Below W7.heap.size W7 W8 := Below.trans (show Below W7.heap.size W7 (W7.alloc (.cells #[.int .i64 n0, .int .i64 n1, .int .i64 n2, .slice (some ⟨gm, 0, none⟩) L L] 26)) from (by repeat (first | assumption | exact Below.refl _ _ | refine below_drewN ?_ _ | refine Below.drew ?_ | refine Below.alloc ?_ (by first | (simp; done) | (simp; omega) | omega) _ | refine Below.setCell ?_ (by first | (simp; done) | (simp; omega) | omega) _))) (hb8.mono (by first | (simp; done) | (simp; omega)))
    replace RH := Lib.hid (show Has [⟨W7.heap.size, 26, 4, v4 n0 n1 n2 (.slice (some ⟨gm, 0, none⟩) L L)⟩, ⟨gm, 3, L, fun i => .int .i64 (foldZ n0 n1 n2 V (lone kk) i)⟩, ⟨gs, 3, L, fun i => .int .i64 (lone kk i)⟩, ⟨gc, 26, 4, v4 n0 n1 n2 (.slice (some ⟨gs, 0, none⟩) L L)⟩, ⟨g2, 3, L, fun i => .int .i64 (foldZ n0 n1 n2 V W i)⟩, ⟨W2.heap.size, 26, 4, v4 n0 n1 n2 (.slice (some ⟨g1, 0, none⟩) L L)⟩, ⟨g1, 3, L, fun i => .int .i64 (foldZ n0 n1 n2 V W i)⟩, ⟨w.heap.size, 26, 4, v4 n0 n1 n2 (.slice (some ⟨ba, oa, none⟩) L ca)⟩, ⟨w.heap.size + 1, 26, 4, v4 n0 n1 n2 (.slice (some ⟨bb, ob, none⟩) L cb)⟩] W8 from .cons ((v4_row W7 n0 n1 n2 (.slice (some ⟨gm, 0, none⟩) L L)).of_block (hb8.block _ (by first | (simp; done) | (simp; omega)))) (RH.out.step hbx))
    replace HB := Lib.hid (HB.out.trans (hbx.mono HB.out.size))
    clear hbx hb8
    obtain ⟨t0, et0⟩ : ∃ x, x = at0 n1 n2 kk := ⟨_, rfl⟩
    obtain ⟨t1, et1⟩ : ∃ x, x = at1 n1 n2 kk := ⟨_, rfl⟩
    obtain ⟨t2, et2⟩ : ∃ x, x = at2 n2 kk := ⟨_, rfl⟩
    rw [← et0, ← et1, ← et2]
    have ET := Lib.hid (And.intro et0 (And.intro et1 et2))
    have TB := Lib.hid (show t0 < n0 ∧ t1 < n1 ∧ t2 < n2 from ⟨et0 ▸ at0_lt (by rw [← HBX.out.hL]; exact hkk), et1 ▸ at1_lt HBX.out.h1.1, et2 ▸ at2_lt HBX.out.h2.1⟩)
    clear et0 et1 et2
    have a3 : W8.cell? ⟨w.heap.size, 3, none⟩ = some (.slice (some ⟨ba, oa, none⟩) L ca) := (show World.rowIs W8 (w.heap.size) 26 4 (v4 n0 n1 n2 (.slice (some ⟨ba, oa, none⟩) L ca)) from RH.out.one 7 (by simp)).cell (i := 3) (show 3 < 4 by first | decide | assumption | omega)
    have la : w.heap.size < W8.heap.size := (show World.rowIs W8 (w.heap.size) 26 4 (v4 n0 n1 n2 (.slice (some ⟨ba, oa, none⟩) L ca)) from RH.out.one 7 (by simp)).lt
    go_wp2
    refine wp_abs (fun X => (Has [⟨W8.heap.size, 23, 3, v3 t0 t1 t2⟩, ⟨W7.heap.size, 26, 4, v4 n0 n1 n2 (.slice (some ⟨gm, 0, none⟩) L L)⟩, ⟨gm, 3, L, fun i => .int .i64 (foldZ n0 n1 n2 V (lone kk) i)⟩, ⟨gs, 3, L, fun i => .int .i64 (lone kk i)⟩, ⟨gc, 26, 4, v4 n0 n1 n2 (.slice (some ⟨gs, 0, none⟩) L L)⟩, ⟨g2, 3, L, fun i => .int .i64 (foldZ n0 n1 n2 V W i)⟩, ⟨W2.heap.size, 26, 4, v4 n0 n1 n2 (.slice (some ⟨g1, 0, none⟩) L L)⟩, ⟨g1, 3, L, fun i => .int .i64 (foldZ n0 n1 n2 V W i)⟩, ⟨w.heap.size, 26, 4, v4 n0 n1 n2 (.slice (some ⟨ba, oa, none⟩) L ca)⟩, ⟨w.heap.size + 1, 26, 4, v4 n0 n1 n2 (.slice (some ⟨bb, ob, none⟩) L cb)⟩] X) ∧ Below w.heap.size w X) ⟨.cons (v3_row W8 t0 t1 t2) (RH.out.step (by repeat (first | assumption | exact Below.refl _ _ | refine below_drewN ?_ _ | refine Below.drew ?_ | refine Below.alloc ?_ (by first | (simp; done) | (simp; omega) | omega) _ | refine Below.setCell ?_ (by first | (simp; done) | (simp; omega) | omega) _))), HB.out.trans (Below.mono (B := W8.heap.size) (by repeat (first | assumption | exact Below.refl _ _ | refine below_drewN ?_ _ | refine Below.drew ?_ | refine Below.alloc ?_ (by first | (simp; done) | (simp; omega) | omega) _ | refine Below.setCell ?_ (by first | (simp; done) | (simp; omega) | omega) _)) HB.out.size)⟩ ?_
    intro W9 hX
    have RH9 := Lib.hid hX.1; have HB9 := Lib.hid hX.2
    clear hX RH HB a3 la
    go_loopw [101] (fun y wr => ∃ i : Nat, i ≤ L ∧ y = .int .i64 i ∧ (Has [⟨W8.heap.size, 23, 3, v3 t0 t1 t2⟩, ⟨W7.heap.size, 26, 4, v4 n0 n1 n2 (.slice (some ⟨gm, 0, none⟩) L L)⟩, ⟨gm, 3, L, fun i => .int .i64 (foldZ n0 n1 n2 V (lone kk) i)⟩, ⟨gs, 3, L, fun i => .int .i64 (lone kk i)⟩, ⟨gc, 26, 4, v4 n0 n1 n2 (.slice (some ⟨gs, 0, none⟩) L L)⟩, ⟨g2, 3, L, fun i => .int .i64 (foldZ n0 n1 n2 V W i)⟩, ⟨W2.heap.size, 26, 4, v4 n0 n1 n2 (.slice (some ⟨g1, 0, none⟩) L L)⟩, ⟨g1, 3, L, fun i => .int .i64 (foldZ n0 n1 n2 V W i)⟩, ⟨w.heap.size, 26, 4, v4 n0 n1 n2 (.slice (some ⟨ba, oa, none⟩) L ca)⟩, ⟨w.heap.size + 1, 26, 4, v4 n0 n1 n2 (.slice (some ⟨bb, ob, none⟩) L cb)⟩] wr) ∧ Below w.heap.size w wr) (fun y _ => L - (RowKit.intOf y).toNat)
    case atStart => exact ⟨0, Nat.zero_le _, rfl, RH9.out, HB9.out⟩
    case round =>
      obtain ⟨i, hi, rfl, hrh, hhb⟩ := hrel
      have RH := Lib.hid hrh; have HB := Lib.hid hhb
      clear hrh hhb RH9 HB9
      by_cases hiL : i < L
      · have hil : (i : Int) < (L : Int) := by omega
        have a0 : wr.cell? ⟨w.heap.size, 0, none⟩ = some (.int .i64 n0) := (show World.rowIs wr (w.heap.size) 26 4 (v4 n0 n1 n2 (.slice (some ⟨ba, oa, none⟩) L ca)) from RH.out.one 8 (by simp)).cell (i := 0) (show 0 < 4 by first | decide | assumption | omega)
        have a1 : wr.cell? ⟨w.heap.size, 1, none⟩ = some (.int .i64 n1) := (show World.rowIs wr (w.heap.size) 26 4 (v4 n0 n1 n2 (.slice (some ⟨ba, oa, none⟩) L ca)) from RH.out.one 8 (by simp)).cell (i := 1) (show 1 < 4 by first | decide | assumption | omega)
        have a2 : wr.cell? ⟨w.heap.size, 2, none⟩ = some (.int .i64 n2) := (show World.rowIs wr (w.heap.size) 26 4 (v4 n0 n1 n2 (.slice (some ⟨ba, oa, none⟩) L ca)) from RH.out.one 8 (by simp)).cell (i := 2) (show 2 < 4 by first | decide | assumption | omega)
        have a3 : wr.cell? ⟨w.heap.size, 3, none⟩ = some (.slice (some ⟨ba, oa, none⟩) L ca) := (show World.rowIs wr (w.heap.size) 26 4 (v4 n0 n1 n2 (.slice (some ⟨ba, oa, none⟩) L ca)) from RH.out.one 8 (by simp)).cell (i := 3) (show 3 < 4 by first | decide | assumption | omega)
        have la : w.heap.size < wr.heap.size := (show World.rowIs wr (w.heap.size) 26 4 (v4 n0 n1 n2 (.slice (some ⟨ba, oa, none⟩) L ca)) from RH.out.one 8 (by simp)).lt
        go_wp2_with fail
        refine (At_any n0 n1 n2 i _ ⟨HBX.out.h1.1, HBX.out.h1.2.2⟩ ⟨HBX.out.h2.1, HBX.out.h2.2.2⟩ (by omega)).mono ?_
        rintro e w4 ⟨rfl, hb4⟩
        clear a0 a1 a2 a3 la
        have hbx := hb4
        replace RH := Lib.hid (show Has [⟨W8.heap.size, 23, 3, v3 t0 t1 t2⟩, ⟨W7.heap.size, 26, 4, v4 n0 n1 n2 (.slice (some ⟨gm, 0, none⟩) L L)⟩, ⟨gm, 3, L, fun i => .int .i64 (foldZ n0 n1 n2 V (lone kk) i)⟩, ⟨gs, 3, L, fun i => .int .i64 (lone kk i)⟩, ⟨gc, 26, 4, v4 n0 n1 n2 (.slice (some ⟨gs, 0, none⟩) L L)⟩, ⟨g2, 3, L, fun i => .int .i64 (foldZ n0 n1 n2 V W i)⟩, ⟨W2.heap.size, 26, 4, v4 n0 n1 n2 (.slice (some ⟨g1, 0, none⟩) L L)⟩, ⟨g1, 3, L, fun i => .int .i64 (foldZ n0 n1 n2 V W i)⟩, ⟨w.heap.size, 26, 4, v4 n0 n1 n2 (.slice (some ⟨ba, oa, none⟩) L ca)⟩, ⟨w.heap.size + 1, 26, 4, v4 n0 n1 n2 (.slice (some ⟨bb, ob, none⟩) L cb)⟩] w4 from RH.out.step hbx)
        replace HB := Lib.hid (HB.out.trans (hbx.mono HB.out.size))
        clear hbx hb4
        obtain ⟨x0, ex0⟩ : ∃ x, x = at0 n1 n2 i := ⟨_, rfl⟩
        obtain ⟨x1, ex1⟩ : ∃ x, x = at1 n1 n2 i := ⟨_, rfl⟩
        obtain ⟨x2, ex2⟩ : ∃ x, x = at2 n2 i := ⟨_, rfl⟩
        rw [← ex0, ← ex1, ← ex2]
        have EX := Lib.hid (And.intro ex0 (And.intro ex1 ex2))
        have XB := Lib.hid (show x0 < n0 ∧ x1 < n1 ∧ x2 < n2 from ⟨ex0 ▸ at0_lt (by rw [← HBX.out.hL]; exact hiL), ex1 ▸ at1_lt HBX.out.h1.1, ex2 ▸ at2_lt HBX.out.h2.1⟩)
        clear ex0 ex1 ex2
        go_wp2
        refine wp_abs (fun X => (Has [⟨w4.heap.size, 23, 3, v3 x0 x1 x2⟩, ⟨W8.heap.size, 23, 3, v3 t0 t1 t2⟩, ⟨W7.heap.size, 26, 4, v4 n0 n1 n2 (.slice (some ⟨gm, 0, none⟩) L L)⟩, ⟨gm, 3, L, fun i => .int .i64 (foldZ n0 n1 n2 V (lone kk) i)⟩, ⟨gs, 3, L, fun i => .int .i64 (lone kk i)⟩, ⟨gc, 26, 4, v4 n0 n1 n2 (.slice (some ⟨gs, 0, none⟩) L L)⟩, ⟨g2, 3, L, fun i => .int .i64 (foldZ n0 n1 n2 V W i)⟩, ⟨W2.heap.size, 26, 4, v4 n0 n1 n2 (.slice (some ⟨g1, 0, none⟩) L L)⟩, ⟨g1, 3, L, fun i => .int .i64 (foldZ n0 n1 n2 V W i)⟩, ⟨w.heap.size, 26, 4, v4 n0 n1 n2 (.slice (some ⟨ba, oa, none⟩) L ca)⟩, ⟨w.heap.size + 1, 26, 4, v4 n0 n1 n2 (.slice (some ⟨bb, ob, none⟩) L cb)⟩] X) ∧ Below w.heap.size w X) ⟨.cons (v3_row w4 x0 x1 x2) (RH.out.step (by repeat (first | assumption | exact Below.refl _ _ | refine below_drewN ?_ _ | refine Below.drew ?_ | refine Below.alloc ?_ (by first | (simp; done) | (simp; omega) | omega) _ | refine Below.setCell ?_ (by first | (simp; done) | (simp; omega) | omega) _))), HB.out.trans (Below.mono (B := w4.heap.size) (by repeat (first | assumption | exact Below.refl _ _ | refine below_drewN ?_ _ | refine Below.drew ?_ | refine Below.alloc ?_ (by first | (simp; done) | (simp; omega) | omega) _ | refine Below.setCell ?_ (by first | (simp; done) | (simp; omega) | omega) _)) HB.out.size)⟩ ?_
        intro w5 hX
        have RH5 := Lib.hid hX.1; have HB5 := Lib.hid hX.2
        clear hX RH HB
        have RH := RH5; have HB := HB5
        clear RH5 HB5
        have a0 : w5.cell? ⟨w.heap.size, 0, none⟩ = some (.int .i64 n0) := (show World.rowIs w5 (w.heap.size) 26 4 (v4 n0 n1 n2 (.slice (some ⟨ba, oa, none⟩) L ca)) from RH.out.one 9 (by simp)).cell (i := 0) (show 0 < 4 by first | decide | assumption | omega)
        have a1 : w5.cell? ⟨w.heap.size, 1, none⟩ = some (.int .i64 n1) := (show World.rowIs w5 (w.heap.size) 26 4 (v4 n0 n1 n2 (.slice (some ⟨ba, oa, none⟩) L ca)) from RH.out.one 9 (by simp)).cell (i := 1) (show 1 < 4 by first | decide | assumption | omega)
        have a2 : w5.cell? ⟨w.heap.size, 2, none⟩ = some (.int .i64 n2) := (show World.rowIs w5 (w.heap.size) 26 4 (v4 n0 n1 n2 (.slice (some ⟨ba, oa, none⟩) L ca)) from RH.out.one 9 (by simp)).cell (i := 2) (show 2 < 4 by first | decide | assumption | omega)
        have a3 : w5.cell? ⟨w.heap.size, 3, none⟩ = some (.slice (some ⟨ba, oa, none⟩) L ca) := (show World.rowIs w5 (w.heap.size) 26 4 (v4 n0 n1 n2 (.slice (some ⟨ba, oa, none⟩) L ca)) from RH.out.one 9 (by simp)).cell (i := 3) (show 3 < 4 by first | decide | assumption | omega)
        have la : w.heap.size < w5.heap.size := (show World.rowIs w5 (w.heap.size) 26 4 (v4 n0 n1 n2 (.slice (some ⟨ba, oa, none⟩) L ca)) from RH.out.one 9 (by simp)).lt
        have d0 : w5.cell? ⟨w4.heap.size, 0, none⟩ = some (.int .i64 x0) := (show World.rowIs w5 (w4.heap.size) 23 3 (v3 x0 x1 x2) from RH.out.one 0 (by simp)).cell (i := 0) (show 0 < 3 by first | decide | assumption | omega)
        have d1 : w5.cell? ⟨w4.heap.size, 1, none⟩ = some (.int .i64 x1) := (show World.rowIs w5 (w4.heap.size) 23 3 (v3 x0 x1 x2) from RH.out.one 0 (by simp)).cell (i := 1) (show 1 < 3 by first | decide | assumption | omega)
        have d2 : w5.cell? ⟨w4.heap.size, 2, none⟩ = some (.int .i64 x2) := (show World.rowIs w5 (w4.heap.size) 23 3 (v3 x0 x1 x2) from RH.out.one 0 (by simp)).cell (i := 2) (show 2 < 3 by first | decide | assumption | omega)
        have e0 : w5.cell? ⟨W8.heap.size, 0, none⟩ = some (.int .i64 t0) := (show World.rowIs w5 (W8.heap.size) 23 3 (v3 t0 t1 t2) from RH.out.one 1 (by simp)).cell (i := 0) (show 0 < 3 by first | decide | assumption | omega)
        have e1 : w5.cell? ⟨W8.heap.size, 1, none⟩ = some (.int .i64 t1) := (show World.rowIs w5 (W8.heap.size) 23 3 (v3 t0 t1 t2) from RH.out.one 1 (by simp)).cell (i := 1) (show 1 < 3 by first | decide | assumption | omega)
        have e2 : w5.cell? ⟨W8.heap.size, 2, none⟩ = some (.int .i64 t2) := (show World.rowIs w5 (W8.heap.size) 23 3 (v3 t0 t1 t2) from RH.out.one 1 (by simp)).cell (i := 2) (show 2 < 3 by first | decide | assumption | omega)
        have lx : w4.heap.size < w5.heap.size := (show World.rowIs w5 (w4.heap.size) 23 3 (v3 x0 x1 x2) from RH.out.one 0 (by simp)).lt
        have lt : W8.heap.size < w5.heap.size := (show World.rowIs w5 (W8.heap.size) 23 3 (v3 t0 t1 t2) from RH.out.one 1 (by simp)).lt
        obtain ⟨u0, eu0⟩ : ∃ u, u = (x0 + t0) % n0 := ⟨_, rfl⟩
        obtain ⟨u1, eu1⟩ : ∃ u, u = (x1 + t1) % n1 := ⟨_, rfl⟩
        obtain ⟨u2, eu2⟩ : ∃ u, u = (x2 + t2) % n2 := ⟨_, rfl⟩
        have h0 := HBX.out.h0; have h1 := HBX.out.h1; have h2 := HBX.out.h2
        have xb := XB.out; have yb := TB.out
        have hu0 : ((x0 : Int) + (t0 : Int)) % (n0 : Int) = (u0 : Int) := by rw [eu0]; rfl
        have hu1 : ((x1 : Int) + (t1 : Int)) % (n1 : Int) = (u1 : Int) := by rw [eu1]; rfl
        have hu2 : ((x2 : Int) + (t2 : Int)) % (n2 : Int) = (u2 : Int) := by rw [eu2]; rfl
        have UB := Lib.hid (show u0 ≤ 192 ∧ u1 ≤ 192 ∧ u2 ≤ 192 from ⟨by rw [eu0]; have := Nat.mod_lt (x0 + t0) h0.1; omega, by rw [eu1]; have := Nat.mod_lt (x1 + t1) h1.1; omega, by rw [eu2]; have := Nat.mod_lt (x2 + t2) h2.1; omega⟩)
        have hk0 : (u0 * n1 + u1) * n2 + u2 = num n0 n1 n2 i kk := by
          unfold num enc
          rw [← EX.out.1, ← EX.out.2.1, ← EX.out.2.2, ← ET.out.1, ← ET.out.2.1, ← ET.out.2.2, eu0, eu1, eu2]
        obtain ⟨nk, ek⟩ : ∃ k, k = (u0 * n1 + u1) * n2 + u2 := ⟨_, rfl⟩
        have hkL : nk < L := by rw [ek, hk0, HBX.out.hL]; exact num_lt h0.1 h1.1 h2.1 _ _
        have HNUM := Lib.hid (fun w' => ek ▸ Number_any n0 n1 n2 u0 u1 u2 w' h1.2.2 h2.2.2 UB.out.1 UB.out.2.1 UB.out.2.2)
        rw [← ek] at hk0
        have HK := Lib.hid hk0
        have i0 : (0 : Int) ≤ x0 + t0 ∧ (x0 : Int) + t0 ≤ 400 := by omega
        have i1 : (0 : Int) ≤ x1 + t1 ∧ (x1 : Int) + t1 ≤ 400 := by omega
        have i2 : (0 : Int) ≤ x2 + t2 ∧ (x2 : Int) + t2 ≤ 400 := by omega
        have w0 : IntKind.i64.wrap ((x0 : Int) + (t0 : Int)) = (x0 : Int) + (t0 : Int) := by rw [IntKind.wrap_i64]; omega
        have w1' : IntKind.i64.wrap ((x1 : Int) + (t1 : Int)) = (x1 : Int) + (t1 : Int) := by rw [IntKind.wrap_i64]; omega
        have w2' : IntKind.i64.wrap ((x2 : Int) + (t2 : Int)) = (x2 : Int) + (t2 : Int) := by rw [IntKind.wrap_i64]; omega
        obtain ⟨i00, i01⟩ := i0; obtain ⟨i10, i11⟩ := i1; obtain ⟨i20, i21⟩ := i2
        have t0' : ((x0 : Int) + (t0 : Int)).tmod (n0 : Int) = (u0 : Int) := by rw [Int.tmod_eq_emod_of_nonneg i00]; exact hu0
        have t1' : ((x1 : Int) + (t1 : Int)).tmod (n1 : Int) = (u1 : Int) := by rw [Int.tmod_eq_emod_of_nonneg i10]; exact hu1
        have t2' : ((x2 : Int) + (t2 : Int)).tmod (n2 : Int) = (u2 : Int) := by rw [Int.tmod_eq_emod_of_nonneg i20]; exact hu2
        have ub := UB.out
        have k0 : IntKind.i64.wrap (u0 : Int) = (u0 : Int) := by rw [IntKind.wrap_i64]; omega
        have k1 : IntKind.i64.wrap (u1 : Int) = (u1 : Int) := by rw [IntKind.wrap_i64]; omega
        have k2 : IntKind.i64.wrap (u2 : Int) = (u2 : Int) := by rw [IntKind.wrap_i64]; omega
        have p0 : (1 : Int) ≤ n0 := by omega
        have p1 : (1 : Int) ≤ n1 := by omega
        have p2 : (1 : Int) ≤ n2 := by omega
        clear ub
        have zn0 : ¬ n0 = 0 := by omega
        have zn1 : ¬ n1 = 0 := by omega
        have zn2 : ¬ n2 = 0 := by omega
        have z0 : ¬ (n0 : Int) = 0 := by omega
        have z1 : ¬ (n1 : Int) = 0 := by omega
        have z2 : ¬ (n2 : Int) = 0 := by omega
        have hnl : (nk : Int) < (L : Int) := by omega
        clear ek hk0 eu0 eu1 eu2 h0 h1 h2 xb yb
        go_region_held3 (fun w' => (w'.cell? ⟨w.heap.size, 0, none⟩ = some (.int .i64 n0) ∧ w'.cell? ⟨w.heap.size, 1, none⟩ = some (.int .i64 n1) ∧ w'.cell? ⟨w.heap.size, 2, none⟩ = some (.int .i64 n2)) ∧ (w'.cell? ⟨w4.heap.size, 0, none⟩ = some (.int .i64 x0) ∧ w'.cell? ⟨w4.heap.size, 1, none⟩ = some (.int .i64 x1) ∧ w'.cell? ⟨w4.heap.size, 2, none⟩ = some (.int .i64 x2)) ∧ (w'.cell? ⟨W8.heap.size, 0, none⟩ = some (.int .i64 t0) ∧ w'.cell? ⟨W8.heap.size, 1, none⟩ = some (.int .i64 t1) ∧ w'.cell? ⟨W8.heap.size, 2, none⟩ = some (.int .i64 t2))) ((go_split_ands; (repeat' apply And.intro) <;> (first | assumption | (go_simp; done)))) (fail)
        refine then_abs (fun X => (Has [⟨w5.heap.size, 23, 3, v3 u0 u1 u2⟩, ⟨w4.heap.size, 23, 3, v3 x0 x1 x2⟩, ⟨W8.heap.size, 23, 3, v3 t0 t1 t2⟩, ⟨W7.heap.size, 26, 4, v4 n0 n1 n2 (.slice (some ⟨gm, 0, none⟩) L L)⟩, ⟨gm, 3, L, fun i => .int .i64 (foldZ n0 n1 n2 V (lone kk) i)⟩, ⟨gs, 3, L, fun i => .int .i64 (lone kk i)⟩, ⟨gc, 26, 4, v4 n0 n1 n2 (.slice (some ⟨gs, 0, none⟩) L L)⟩, ⟨g2, 3, L, fun i => .int .i64 (foldZ n0 n1 n2 V W i)⟩, ⟨W2.heap.size, 26, 4, v4 n0 n1 n2 (.slice (some ⟨g1, 0, none⟩) L L)⟩, ⟨g1, 3, L, fun i => .int .i64 (foldZ n0 n1 n2 V W i)⟩, ⟨w.heap.size, 26, 4, v4 n0 n1 n2 (.slice (some ⟨ba, oa, none⟩) L ca)⟩, ⟨w.heap.size + 1, 26, 4, v4 n0 n1 n2 (.slice (some ⟨bb, ob, none⟩) L cb)⟩] X) ∧ Below w.heap.size w X) ⟨.cons ((v3_row w5 u0 u1 u2).drew) (RH.out.step (show Below w5.heap.size w5 ((w5.alloc (.cells #[.int .i64 u0, .int .i64 u1, .int .i64 u2] 23)).drew) from (by repeat (first | assumption | exact Below.refl _ _ | refine below_drewN ?_ _ | refine Below.drew ?_ | refine Below.alloc ?_ (by first | (simp; done) | (simp; omega) | omega) _ | refine Below.setCell ?_ (by first | (simp; done) | (simp; omega) | omega) _)))), HB.out.trans (Below.mono (show Below w5.heap.size w5 ((w5.alloc (.cells #[.int .i64 u0, .int .i64 u1, .int .i64 u2] 23)).drew) from (by repeat (first | assumption | exact Below.refl _ _ | refine below_drewN ?_ _ | refine Below.drew ?_ | refine Below.alloc ?_ (by first | (simp; done) | (simp; omega) | omega) _ | refine Below.setCell ?_ (by first | (simp; done) | (simp; omega) | omega) _))) HB.out.size)⟩ ?_
        intro w6 hX
        have RH6 := Lib.hid hX.1; have HB6 := Lib.hid hX.2
        clear hX RH HB d0 d1 d2 e0 e1 e2 lx lt hu0 hu1 hu2 w0 w1' w2' t0' t1' t2' k0 k1 k2 zn0 zn1 zn2 z0 z1 z2 i00 i01 i10 i11 i20 i21 p0 p1 p2
        clear a0 a1 a2 a3 la
        have RH := RH6; have HB := HB6
        clear RH6 HB6
        have a0 : w6.cell? ⟨w.heap.size, 0, none⟩ = some (.int .i64 n0) := (show World.rowIs w6 (w.heap.size) 26 4 (v4 n0 n1 n2 (.slice (some ⟨ba, oa, none⟩) L ca)) from RH.out.one 10 (by simp)).cell (i := 0) (show 0 < 4 by first | decide | assumption | omega)
        have a1 : w6.cell? ⟨w.heap.size, 1, none⟩ = some (.int .i64 n1) := (show World.rowIs w6 (w.heap.size) 26 4 (v4 n0 n1 n2 (.slice (some ⟨ba, oa, none⟩) L ca)) from RH.out.one 10 (by simp)).cell (i := 1) (show 1 < 4 by first | decide | assumption | omega)
        have a2 : w6.cell? ⟨w.heap.size, 2, none⟩ = some (.int .i64 n2) := (show World.rowIs w6 (w.heap.size) 26 4 (v4 n0 n1 n2 (.slice (some ⟨ba, oa, none⟩) L ca)) from RH.out.one 10 (by simp)).cell (i := 2) (show 2 < 4 by first | decide | assumption | omega)
        have a3 : w6.cell? ⟨w.heap.size, 3, none⟩ = some (.slice (some ⟨ba, oa, none⟩) L ca) := (show World.rowIs w6 (w.heap.size) 26 4 (v4 n0 n1 n2 (.slice (some ⟨ba, oa, none⟩) L ca)) from RH.out.one 10 (by simp)).cell (i := 3) (show 3 < 4 by first | decide | assumption | omega)
        have la : w.heap.size < w6.heap.size := (show World.rowIs w6 (w.heap.size) 26 4 (v4 n0 n1 n2 (.slice (some ⟨ba, oa, none⟩) L ca)) from RH.out.one 10 (by simp)).lt
        have d0 : w6.cell? ⟨w5.heap.size, 0, none⟩ = some (.int .i64 u0) := (show World.rowIs w6 (w5.heap.size) 23 3 (v3 u0 u1 u2) from RH.out.one 0 (by simp)).cell (i := 0) (show 0 < 3 by first | decide | assumption | omega)
        have d1 : w6.cell? ⟨w5.heap.size, 1, none⟩ = some (.int .i64 u1) := (show World.rowIs w6 (w5.heap.size) 23 3 (v3 u0 u1 u2) from RH.out.one 0 (by simp)).cell (i := 1) (show 1 < 3 by first | decide | assumption | omega)
        have d2 : w6.cell? ⟨w5.heap.size, 2, none⟩ = some (.int .i64 u2) := (show World.rowIs w6 (w5.heap.size) 23 3 (v3 u0 u1 u2) from RH.out.one 0 (by simp)).cell (i := 2) (show 2 < 3 by first | decide | assumption | omega)
        have lu : w5.heap.size < w6.heap.size := (show World.rowIs w6 (w5.heap.size) 23 3 (v3 u0 u1 u2) from RH.out.one 0 (by simp)).lt
        have m3 : w6.cell? ⟨W7.heap.size, 3, none⟩ = some (.slice (some ⟨gm, 0, none⟩) L L) := (show World.rowIs w6 (W7.heap.size) 26 4 (v4 n0 n1 n2 (.slice (some ⟨gm, 0, none⟩) L L)) from RH.out.one 3 (by simp)).cell (i := 3) (show 3 < 4 by first | decide | assumption | omega)
        have lm : W7.heap.size < w6.heap.size := (show World.rowIs w6 (W7.heap.size) 26 4 (v4 n0 n1 n2 (.slice (some ⟨gm, 0, none⟩) L L)) from RH.out.one 3 (by simp)).lt
        have lg : gm < w6.heap.size := (show World.rowIs w6 (gm) 3 L (fun i => .int .i64 (foldZ n0 n1 n2 V (lone kk) i)) from RH.out.one 4 (by simp)).lt
        obtain ⟨v, ev⟩ : ∃ v, v = V i := ⟨_, rfl⟩
        have cv : w6.cell? ⟨ba, oa + i, none⟩ = some (.int .i64 v) := by rw [ev]; exact (HB.out.cell (p := ⟨ba, oa + i, none⟩) HBA.out).trans (HV.out i hiL)
        have cm : w6.cell? ⟨gm, nk, none⟩ = some (.int .i64 v) := by rw [ev, ← fold_lone HBX.out.h0.1 HBX.out.h1.1 HBX.out.h2.1 V (i := i) (k := kk) (by rw [← HBX.out.hL]; exact hiL) (by rw [← HBX.out.hL]; exact hkk), ← HK.out]; exact (show World.rowIs w6 (gm) 3 L (fun i => .int .i64 (foldZ n0 n1 n2 V (lone kk) i)) from RH.out.one 4 (by simp)).cell hkL
        have lba : ba < w6.heap.size := Nat.lt_of_lt_of_le HBA.out HB.out.size
        clear ev
        simp only [Exit.then]
        go_wp2
        refine region_all (by kernel_rfl) (by kernel_rfl) ?_
        repeat (go_big_quiet_step ((go_at_call 21; exact held_of _ (Nat.le_refl _) (HNUM.out _))))
        refine wpQuiet_nil ?_
        rintro w7 ⟨⟨w0, hb⟩, rfl⟩
        clear a0 a1 a2 a3 la
        clear d0 d1 d2 lu m3 lm lg cv cm lba
        have hbx := hb
        replace RH := Lib.hid (show Has [⟨w5.heap.size, 23, 3, v3 u0 u1 u2⟩, ⟨w4.heap.size, 23, 3, v3 x0 x1 x2⟩, ⟨W8.heap.size, 23, 3, v3 t0 t1 t2⟩, ⟨W7.heap.size, 26, 4, v4 n0 n1 n2 (.slice (some ⟨gm, 0, none⟩) L L)⟩, ⟨gm, 3, L, fun i => .int .i64 (foldZ n0 n1 n2 V (lone kk) i)⟩, ⟨gs, 3, L, fun i => .int .i64 (lone kk i)⟩, ⟨gc, 26, 4, v4 n0 n1 n2 (.slice (some ⟨gs, 0, none⟩) L L)⟩, ⟨g2, 3, L, fun i => .int .i64 (foldZ n0 n1 n2 V W i)⟩, ⟨W2.heap.size, 26, 4, v4 n0 n1 n2 (.slice (some ⟨g1, 0, none⟩) L L)⟩, ⟨g1, 3, L, fun i => .int .i64 (foldZ n0 n1 n2 V W i)⟩, ⟨w.heap.size, 26, 4, v4 n0 n1 n2 (.slice (some ⟨ba, oa, none⟩) L ca)⟩, ⟨w.heap.size + 1, 26, 4, v4 n0 n1 n2 (.slice (some ⟨bb, ob, none⟩) L cb)⟩] w7 from RH.out.step hbx)
        replace HB := Lib.hid (HB.out.trans (hbx.mono HB.out.size))
        clear hbx hb
        go_wp2
        go_roundw
        case rel => exact ⟨i + 1, by omega, by go_num, RH.out.tail.tail, HB.out⟩
        case measure => simp [RowKit.intOf]; omega
      · have hi2 : i = L := by omega
        have a0 : wr.cell? ⟨w.heap.size, 0, none⟩ = some (.int .i64 n0) := (show World.rowIs wr (w.heap.size) 26 4 (v4 n0 n1 n2 (.slice (some ⟨ba, oa, none⟩) L ca)) from RH.out.one 8 (by simp)).cell (i := 0) (show 0 < 4 by first | decide | assumption | omega)
        have a1 : wr.cell? ⟨w.heap.size, 1, none⟩ = some (.int .i64 n1) := (show World.rowIs wr (w.heap.size) 26 4 (v4 n0 n1 n2 (.slice (some ⟨ba, oa, none⟩) L ca)) from RH.out.one 8 (by simp)).cell (i := 1) (show 1 < 4 by first | decide | assumption | omega)
        have a2 : wr.cell? ⟨w.heap.size, 2, none⟩ = some (.int .i64 n2) := (show World.rowIs wr (w.heap.size) 26 4 (v4 n0 n1 n2 (.slice (some ⟨ba, oa, none⟩) L ca)) from RH.out.one 8 (by simp)).cell (i := 2) (show 2 < 4 by first | decide | assumption | omega)
        have a3 : wr.cell? ⟨w.heap.size, 3, none⟩ = some (.slice (some ⟨ba, oa, none⟩) L ca) := (show World.rowIs wr (w.heap.size) 26 4 (v4 n0 n1 n2 (.slice (some ⟨ba, oa, none⟩) L ca)) from RH.out.one 8 (by simp)).cell (i := 3) (show 3 < 4 by first | decide | assumption | omega)
        have la : w.heap.size < wr.heap.size := (show World.rowIs wr (w.heap.size) 26 4 (v4 n0 n1 n2 (.slice (some ⟨ba, oa, none⟩) L ca)) from RH.out.one 8 (by simp)).lt
        clear hi2
        go_wp2
        obtain ⟨M8, eM8⟩ : ∃ q, q = wr.heap.size := ⟨_, rfl⟩
        have EM8 := Lib.hid eM8; clear eM8
        have hmk := mk24 L (by omega)
        have HOM8 := Lib.hid (show ∀ r : Row, r ∈ ([⟨W8.heap.size, 23, 3, v3 t0 t1 t2⟩, ⟨W7.heap.size, 26, 4, v4 n0 n1 n2 (.slice (some ⟨gm, 0, none⟩) L L)⟩, ⟨gm, 3, L, fun i => .int .i64 (foldZ n0 n1 n2 V (lone kk) i)⟩, ⟨gs, 3, L, fun i => .int .i64 (lone kk i)⟩, ⟨gc, 26, 4, v4 n0 n1 n2 (.slice (some ⟨gs, 0, none⟩) L L)⟩, ⟨g2, 3, L, fun i => .int .i64 (foldZ n0 n1 n2 V W i)⟩, ⟨W2.heap.size, 26, 4, v4 n0 n1 n2 (.slice (some ⟨g1, 0, none⟩) L L)⟩, ⟨g1, 3, L, fun i => .int .i64 (foldZ n0 n1 n2 V W i)⟩, ⟨w.heap.size, 26, 4, v4 n0 n1 n2 (.slice (some ⟨ba, oa, none⟩) L ca)⟩, ⟨w.heap.size + 1, 26, 4, v4 n0 n1 n2 (.slice (some ⟨bb, ob, none⟩) L cb)⟩] : List Row) → r.g < M8 from by rw [EM8.out]; exact RH.out.lt)
        apply meet
        case a =>
          intro KEY
          go_region_held3 (fun w' => w'.cell? ⟨w.heap.size, 0, none⟩ = some (.int .i64 n0) ∧ w'.cell? ⟨w.heap.size, 1, none⟩ = some (.int .i64 n1) ∧ w'.cell? ⟨w.heap.size, 2, none⟩ = some (.int .i64 n2) ∧ w'.cell? ⟨w.heap.size, 3, none⟩ = some (.slice (some ⟨ba, oa, none⟩) L ca)) ((go_split_ands; (repeat' apply And.intro) <;> (first | assumption | (go_simp; done)))) (fail)
          · refine then_abs (fun X => Has [⟨wr.heap.size, 3, L, fun _ => .int .i64 0⟩, ⟨wr.heap.size + 1, 26, 4, v4 n0 n1 n2 (.slice (some ⟨wr.heap.size, 0, none⟩) L L)⟩, ⟨W8.heap.size, 23, 3, v3 t0 t1 t2⟩, ⟨W7.heap.size, 26, 4, v4 n0 n1 n2 (.slice (some ⟨gm, 0, none⟩) L L)⟩, ⟨gm, 3, L, fun i => .int .i64 (foldZ n0 n1 n2 V (lone kk) i)⟩, ⟨gs, 3, L, fun i => .int .i64 (lone kk i)⟩, ⟨gc, 26, 4, v4 n0 n1 n2 (.slice (some ⟨gs, 0, none⟩) L L)⟩, ⟨g2, 3, L, fun i => .int .i64 (foldZ n0 n1 n2 V W i)⟩, ⟨W2.heap.size, 26, 4, v4 n0 n1 n2 (.slice (some ⟨g1, 0, none⟩) L L)⟩, ⟨g1, 3, L, fun i => .int .i64 (foldZ n0 n1 n2 V W i)⟩, ⟨w.heap.size, 26, 4, v4 n0 n1 n2 (.slice (some ⟨ba, oa, none⟩) L ca)⟩, ⟨w.heap.size + 1, 26, 4, v4 n0 n1 n2 (.slice (some ⟨bb, ob, none⟩) L cb)⟩] X ∧ Below w.heap.size w X ∧ M8 ≤ wr.heap.size ∧ M8 ≤ wr.heap.size + 1 ∧ wr.heap.size ≠ wr.heap.size + 1) ⟨.cons (((wr.rowIs_made (.int .i64 0) L 3).alloc _).drew) (.cons ((show World.rowIs _ (wr.heap.size + 1) _ _ _ by
                have := v4_row (wr.alloc (.cells (madeCells #[.int .i64 0] L) 3)) n0 n1 n2 (.slice (some ⟨wr.heap.size, 0, none⟩) L L)
                simp only [World.size_alloc] at this
                exact this.drew)) (RH.out.step (show Below wr.heap.size wr (((wr.alloc (.cells (madeCells #[.int .i64 0] L) 3)).alloc (.cells #[.int .i64 n0, .int .i64 n1, .int .i64 n2, .slice (some ⟨wr.heap.size, 0, none⟩) L L] 26)).drew) from (by repeat (first | assumption | exact Below.refl _ _ | refine below_drewN ?_ _ | refine Below.drew ?_ | refine Below.alloc ?_ (by first | (simp; done) | (simp; omega) | omega) _ | refine Below.setCell ?_ (by first | (simp; done) | (simp; omega) | omega) _))))), HB.out.trans (Below.mono (show Below wr.heap.size wr (((wr.alloc (.cells (madeCells #[.int .i64 0] L) 3)).alloc (.cells #[.int .i64 n0, .int .i64 n1, .int .i64 n2, .slice (some ⟨wr.heap.size, 0, none⟩) L L] 26)).drew) from (by repeat (first | assumption | exact Below.refl _ _ | refine below_drewN ?_ _ | refine Below.drew ?_ | refine Below.alloc ?_ (by first | (simp; done) | (simp; omega) | omega) _ | refine Below.setCell ?_ (by first | (simp; done) | (simp; omega) | omega) _))) HB.out.size), by rw [EM8.out]; omega, by rw [EM8.out]; omega, by omega⟩ ?_
            generalize wr.heap.size + 1 = hc
            generalize wr.heap.size = hs
            revert hs
            revert hc
            exact KEY.out
          · refine then_abs (fun X => Has [⟨wr.heap.size + 1, 3, L, fun _ => .int .i64 0⟩, ⟨wr.heap.size, 26, 4, v4 n0 n1 n2 (.slice (some ⟨wr.heap.size + 1, 0, none⟩) L L)⟩, ⟨W8.heap.size, 23, 3, v3 t0 t1 t2⟩, ⟨W7.heap.size, 26, 4, v4 n0 n1 n2 (.slice (some ⟨gm, 0, none⟩) L L)⟩, ⟨gm, 3, L, fun i => .int .i64 (foldZ n0 n1 n2 V (lone kk) i)⟩, ⟨gs, 3, L, fun i => .int .i64 (lone kk i)⟩, ⟨gc, 26, 4, v4 n0 n1 n2 (.slice (some ⟨gs, 0, none⟩) L L)⟩, ⟨g2, 3, L, fun i => .int .i64 (foldZ n0 n1 n2 V W i)⟩, ⟨W2.heap.size, 26, 4, v4 n0 n1 n2 (.slice (some ⟨g1, 0, none⟩) L L)⟩, ⟨g1, 3, L, fun i => .int .i64 (foldZ n0 n1 n2 V W i)⟩, ⟨w.heap.size, 26, 4, v4 n0 n1 n2 (.slice (some ⟨ba, oa, none⟩) L ca)⟩, ⟨w.heap.size + 1, 26, 4, v4 n0 n1 n2 (.slice (some ⟨bb, ob, none⟩) L cb)⟩] X ∧ Below w.heap.size w X ∧ M8 ≤ wr.heap.size + 1 ∧ M8 ≤ wr.heap.size ∧ wr.heap.size + 1 ≠ wr.heap.size) ⟨.cons ((show World.rowIs _ (wr.heap.size + 1) _ _ _ by
                have := (wr.alloc (.cells #[.int .i64 n0, .int .i64 n1, .int .i64 n2, .slice (some ⟨wr.heap.size + 1, 0, none⟩) L L] 26)).rowIs_made (.int .i64 0) L 3
                simp only [World.size_alloc] at this
                exact this.drew)) (.cons (((v4_row wr n0 n1 n2 (.slice (some ⟨wr.heap.size + 1, 0, none⟩) L L)).alloc _).drew) (RH.out.step (show Below wr.heap.size wr (((wr.alloc (.cells #[.int .i64 n0, .int .i64 n1, .int .i64 n2, .slice (some ⟨wr.heap.size + 1, 0, none⟩) L L] 26)).alloc (.cells (madeCells #[.int .i64 0] L) 3)).drew) from (by repeat (first | assumption | exact Below.refl _ _ | refine below_drewN ?_ _ | refine Below.drew ?_ | refine Below.alloc ?_ (by first | (simp; done) | (simp; omega) | omega) _ | refine Below.setCell ?_ (by first | (simp; done) | (simp; omega) | omega) _))))), HB.out.trans (Below.mono (show Below wr.heap.size wr (((wr.alloc (.cells #[.int .i64 n0, .int .i64 n1, .int .i64 n2, .slice (some ⟨wr.heap.size + 1, 0, none⟩) L L] 26)).alloc (.cells (madeCells #[.int .i64 0] L) 3)).drew) from (by repeat (first | assumption | exact Below.refl _ _ | refine below_drewN ?_ _ | refine Below.drew ?_ | refine Below.alloc ?_ (by first | (simp; done) | (simp; omega) | omega) _ | refine Below.setCell ?_ (by first | (simp; done) | (simp; omega) | omega) _))) HB.out.size), by rw [EM8.out]; omega, by rw [EM8.out]; omega, by omega⟩ ?_
            generalize wr.heap.size + 1 = hs
            generalize wr.heap.size = hc
            revert hs
            revert hc
            exact KEY.out
        case b =>
          intro hc hs X8 hX
          obtain ⟨h1, h2, haM8, hbM8, hnM8⟩ := hX
          have RH := Lib.hid h1; have HB := Lib.hid h2
          clear h1 h2
          clear a0 a1 a2 a3 la hmk
          have o3 : X8.cell? ⟨hc, 3, none⟩ = some (.slice (some ⟨hs, 0, none⟩) L L) := (show World.rowIs X8 (hc) 26 4 (v4 n0 n1 n2 (.slice (some ⟨hs, 0, none⟩) L L)) from RH.out.one 1 (by simp)).cell (i := 3) (show 3 < 4 by first | decide | assumption | omega)
          have lo : hc < X8.heap.size := (show World.rowIs X8 (hc) 26 4 (v4 n0 n1 n2 (.slice (some ⟨hs, 0, none⟩) L L)) from RH.out.one 1 (by simp)).lt
          simp only [Exit.then]
          go_wp2
          have HJ := Lib.hid (show Has (⟨hs, 3, L, upZ 0 (fun u => W u + lone kk u)⟩ :: [⟨hc, 26, 4, v4 n0 n1 n2 (.slice (some ⟨hs, 0, none⟩) L L)⟩, ⟨W8.heap.size, 23, 3, v3 t0 t1 t2⟩, ⟨W7.heap.size, 26, 4, v4 n0 n1 n2 (.slice (some ⟨gm, 0, none⟩) L L)⟩, ⟨gm, 3, L, fun i => .int .i64 (foldZ n0 n1 n2 V (lone kk) i)⟩, ⟨gs, 3, L, fun i => .int .i64 (lone kk i)⟩, ⟨gc, 26, 4, v4 n0 n1 n2 (.slice (some ⟨gs, 0, none⟩) L L)⟩, ⟨g2, 3, L, fun i => .int .i64 (foldZ n0 n1 n2 V W i)⟩, ⟨W2.heap.size, 26, 4, v4 n0 n1 n2 (.slice (some ⟨g1, 0, none⟩) L L)⟩, ⟨g1, 3, L, fun i => .int .i64 (foldZ n0 n1 n2 V W i)⟩, ⟨w.heap.size, 26, 4, v4 n0 n1 n2 (.slice (some ⟨ba, oa, none⟩) L ca)⟩, ⟨w.heap.size + 1, 26, 4, v4 n0 n1 n2 (.slice (some ⟨bb, ob, none⟩) L cb)⟩]) X8 from RH.out.congr (fun i _ => by unfold upZ; rw [if_neg (Nat.not_lt_zero _)]))
          clear o3 lo
          go_loopw [161] (fun y wr => ∃ j : Nat, j ≤ L ∧ y = .int .i64 j ∧ (∀ u, u < j → W u + lone kk u ≤ 1048576) ∧ Has (⟨hs, 3, L, upZ j (fun u => W u + lone kk u)⟩ :: [⟨hc, 26, 4, v4 n0 n1 n2 (.slice (some ⟨hs, 0, none⟩) L L)⟩, ⟨W8.heap.size, 23, 3, v3 t0 t1 t2⟩, ⟨W7.heap.size, 26, 4, v4 n0 n1 n2 (.slice (some ⟨gm, 0, none⟩) L L)⟩, ⟨gm, 3, L, fun i => .int .i64 (foldZ n0 n1 n2 V (lone kk) i)⟩, ⟨gs, 3, L, fun i => .int .i64 (lone kk i)⟩, ⟨gc, 26, 4, v4 n0 n1 n2 (.slice (some ⟨gs, 0, none⟩) L L)⟩, ⟨g2, 3, L, fun i => .int .i64 (foldZ n0 n1 n2 V W i)⟩, ⟨W2.heap.size, 26, 4, v4 n0 n1 n2 (.slice (some ⟨g1, 0, none⟩) L L)⟩, ⟨g1, 3, L, fun i => .int .i64 (foldZ n0 n1 n2 V W i)⟩, ⟨w.heap.size, 26, 4, v4 n0 n1 n2 (.slice (some ⟨ba, oa, none⟩) L ca)⟩, ⟨w.heap.size + 1, 26, 4, v4 n0 n1 n2 (.slice (some ⟨bb, ob, none⟩) L cb)⟩]) wr ∧ Below w.heap.size w wr) (fun y _ => L - (RowKit.intOf y).toNat)
          case atStart => exact ⟨0, Nat.zero_le _, rfl, fun u hu => absurd hu (Nat.not_lt_zero _), HJ.out, HB.out⟩
          case round =>
            clear HB
            obtain ⟨j, hj, rfl, hup, hrh, hhb⟩ := hrel
            have UP := Lib.hid hup
            have RH := Lib.hid hrh; have HB := Lib.hid hhb
            clear hrh hhb hup HJ
            by_cases hjL : j < L
            · have hjl : (j : Int) < (L : Int) := by omega
              have o3 : wr.cell? ⟨hc, 3, none⟩ = some (.slice (some ⟨hs, 0, none⟩) L L) := (show World.rowIs wr (hc) 26 4 (v4 n0 n1 n2 (.slice (some ⟨hs, 0, none⟩) L L)) from RH.out.one 1 (by simp)).cell (i := 3) (show 3 < 4 by first | decide | assumption | omega)
              have lo : hc < wr.heap.size := (show World.rowIs wr (hc) 26 4 (v4 n0 n1 n2 (.slice (some ⟨hs, 0, none⟩) L L)) from RH.out.one 1 (by simp)).lt
              have lh : hs < wr.heap.size := (show World.rowIs wr (hs) 3 L (upZ j (fun u => W u + lone kk u)) from RH.out.one 0 (by simp)).lt
              have fh : wr.frozen? ⟨hs, j, none⟩ = false := (show World.rowIs wr (hs) 3 L (upZ j (fun u => W u + lone kk u)) from RH.out.one 0 (by simp)).frozen j
              have b3 : wr.cell? ⟨w.heap.size + 1, 3, none⟩ = some (.slice (some ⟨bb, ob, none⟩) L cb) := (show World.rowIs wr (w.heap.size + 1) 26 4 (v4 n0 n1 n2 (.slice (some ⟨bb, ob, none⟩) L cb)) from RH.out.one 11 (by simp)).cell (i := 3) (show 3 < 4 by first | decide | assumption | omega)
              have lb : w.heap.size + 1 < wr.heap.size := (show World.rowIs wr (w.heap.size + 1) 26 4 (v4 n0 n1 n2 (.slice (some ⟨bb, ob, none⟩) L cb)) from RH.out.one 11 (by simp)).lt
              have e3 : wr.cell? ⟨gc, 3, none⟩ = some (.slice (some ⟨gs, 0, none⟩) L L) := (show World.rowIs wr (gc) 26 4 (v4 n0 n1 n2 (.slice (some ⟨gs, 0, none⟩) L L)) from RH.out.one 6 (by simp)).cell (i := 3) (show 3 < 4 by first | decide | assumption | omega)
              have le : gc < wr.heap.size := (show World.rowIs wr (gc) 26 4 (v4 n0 n1 n2 (.slice (some ⟨gs, 0, none⟩) L L)) from RH.out.one 6 (by simp)).lt
              have lg : gs < wr.heap.size := (show World.rowIs wr (gs) 3 L (fun i => .int .i64 (lone kk i)) from RH.out.one 5 (by simp)).lt
              obtain ⟨v, ev⟩ : ∃ v, v = W j := ⟨_, rfl⟩
              obtain ⟨e, ee⟩ : ∃ v, v = lone kk j := ⟨_, rfl⟩
              have cv : wr.cell? ⟨bb, ob + j, none⟩ = some (.int .i64 v) := by rw [ev]; exact (HB.out.cell (p := ⟨bb, ob + j, none⟩) HBB.out).trans (HW.out j hjL)
              have ce : wr.cell? ⟨gs, j, none⟩ = some (.int .i64 e) := by rw [ee]; exact (show World.rowIs wr (gs) 3 L (fun i => .int .i64 (lone kk i)) from RH.out.one 5 (by simp)).cell hjL
              have ch : wr.cell? ⟨hs, j, none⟩ = some (.int .i64 0) := ((show World.rowIs wr (hs) 3 L (upZ j (fun u => W u + lone kk u)) from RH.out.one 0 (by simp)).cell hjL).trans (by unfold upZ; rw [if_neg (Nat.lt_irrefl _)])
              have lbb : bb < wr.heap.size := Nat.lt_of_lt_of_le HBB.out HB.out.size
              have vb : -1048576 ≤ v ∧ v ≤ 1048576 := by rw [ev]; exact HWB.out j hjL
              have eb : 0 ≤ e ∧ e ≤ 1 := by rw [ee]; unfold lone; split <;> omega
              obtain ⟨vb1, vb2⟩ := vb; obtain ⟨eb1, eb2⟩ := eb
              have hw := IntWalk.i64_in (v + e) (by omega)
              have EV := Lib.hid (show W j + lone kk j = v + e by rw [ev, ee])
              have wlt : w.heap.size < M8 := HOM8.out ⟨w.heap.size, 26, 4, v4 n0 n1 n2 (.slice (some ⟨ba, oa, none⟩) L ca)⟩ (by simp)
              have hsc : ¬ hs = hc := hnM8
              clear ev ee
              go_wp2
              refine region_headq 15 (by kernel_rfl) (by kernel_rfl) ?_
              simp only [List.take_succ_cons, List.take_zero, List.drop_succ_cons, List.drop_zero]
              repeat (go_big_quiet_step (fail))
              refine wpQuiet_nil ?_
              rintro _ ⟨nq, rfl⟩
              have RHd : Has [⟨hs, 3, L, upZ j (fun u => W u + lone kk u)⟩, ⟨hc, 26, 4, v4 n0 n1 n2 (.slice (some ⟨hs, 0, none⟩) L L)⟩, ⟨W8.heap.size, 23, 3, v3 t0 t1 t2⟩, ⟨W7.heap.size, 26, 4, v4 n0 n1 n2 (.slice (some ⟨gm, 0, none⟩) L L)⟩, ⟨gm, 3, L, fun i => .int .i64 (foldZ n0 n1 n2 V (lone kk) i)⟩, ⟨gs, 3, L, fun i => .int .i64 (lone kk i)⟩, ⟨gc, 26, 4, v4 n0 n1 n2 (.slice (some ⟨gs, 0, none⟩) L L)⟩, ⟨g2, 3, L, fun i => .int .i64 (foldZ n0 n1 n2 V W i)⟩, ⟨W2.heap.size, 26, 4, v4 n0 n1 n2 (.slice (some ⟨g1, 0, none⟩) L L)⟩, ⟨g1, 3, L, fun i => .int .i64 (foldZ n0 n1 n2 V W i)⟩, ⟨w.heap.size, 26, 4, v4 n0 n1 n2 (.slice (some ⟨ba, oa, none⟩) L ca)⟩, ⟨w.heap.size + 1, 26, 4, v4 n0 n1 n2 (.slice (some ⟨bb, ob, none⟩) L cb)⟩] (wr.drewN nq) := ⟨fun r hr => (RH.out.all r hr).of_block rfl⟩
              have RH2 := Lib.hid (show Has [⟨hs, 3, L, upZ (j + 1) (fun u => W u + lone kk u)⟩, ⟨hc, 26, 4, v4 n0 n1 n2 (.slice (some ⟨hs, 0, none⟩) L L)⟩, ⟨W8.heap.size, 23, 3, v3 t0 t1 t2⟩, ⟨W7.heap.size, 26, 4, v4 n0 n1 n2 (.slice (some ⟨gm, 0, none⟩) L L)⟩, ⟨gm, 3, L, fun i => .int .i64 (foldZ n0 n1 n2 V (lone kk) i)⟩, ⟨gs, 3, L, fun i => .int .i64 (lone kk i)⟩, ⟨gc, 26, 4, v4 n0 n1 n2 (.slice (some ⟨gs, 0, none⟩) L L)⟩, ⟨g2, 3, L, fun i => .int .i64 (foldZ n0 n1 n2 V W i)⟩, ⟨W2.heap.size, 26, 4, v4 n0 n1 n2 (.slice (some ⟨g1, 0, none⟩) L L)⟩, ⟨g1, 3, L, fun i => .int .i64 (foldZ n0 n1 n2 V W i)⟩, ⟨w.heap.size, 26, 4, v4 n0 n1 n2 (.slice (some ⟨ba, oa, none⟩) L ca)⟩, ⟨w.heap.size + 1, 26, 4, v4 n0 n1 n2 (.slice (some ⟨bb, ob, none⟩) L cb)⟩] ((wr.drewN nq).setCell ⟨hs, j, none⟩ (.int .i64 (v + e))) from RHd.put j _ (List.forall_mem_cons.2 ⟨fun e => hnM8 e.symm, fun r hr => Nat.ne_of_lt (Nat.lt_of_lt_of_le (HOM8.out r hr) haM8)⟩) (fun i _ => by
                unfold upZ
                by_cases q : i = j
                · subst q; rw [if_pos (by omega), if_pos rfl]; exact congrArg _ EV.out
                · by_cases z : i < j
                  · rw [if_pos (by omega), if_neg q, if_pos z]
                  · rw [if_neg (by omega), if_neg q, if_neg z]))
              have HB2 := Lib.hid (show Below w.heap.size w ((wr.drewN nq).setCell ⟨hs, j, none⟩ (.int .i64 (v + e))) from (below_drewN HB.out nq).setCell (by simp only; omega) _)
              clear RHd RH HB hw
              by_cases hvb : (1048576 : Int) < v + e
              · go_wp2
                go_ret
                exact ⟨rfl, HB2.out⟩
              · go_wp2
                go_roundw
                case rel => exact ⟨j + 1, by omega, by go_num, fun u hu => by
                  by_cases q : u = j
                  · subst q; rw [EV.out]; omega
                  · exact UP.out u (by omega), RH2.out, HB2.out⟩
                case measure => simp [RowKit.intOf]; omega
            · have hj2 : j = L := by omega
              have RHJ := Lib.hid (show Has (⟨hs, 3, L, fun u => .int .i64 (W u + lone kk u)⟩ :: [⟨hc, 26, 4, v4 n0 n1 n2 (.slice (some ⟨hs, 0, none⟩) L L)⟩, ⟨W8.heap.size, 23, 3, v3 t0 t1 t2⟩, ⟨W7.heap.size, 26, 4, v4 n0 n1 n2 (.slice (some ⟨gm, 0, none⟩) L L)⟩, ⟨gm, 3, L, fun i => .int .i64 (foldZ n0 n1 n2 V (lone kk) i)⟩, ⟨gs, 3, L, fun i => .int .i64 (lone kk i)⟩, ⟨gc, 26, 4, v4 n0 n1 n2 (.slice (some ⟨gs, 0, none⟩) L L)⟩, ⟨g2, 3, L, fun i => .int .i64 (foldZ n0 n1 n2 V W i)⟩, ⟨W2.heap.size, 26, 4, v4 n0 n1 n2 (.slice (some ⟨g1, 0, none⟩) L L)⟩, ⟨g1, 3, L, fun i => .int .i64 (foldZ n0 n1 n2 V W i)⟩, ⟨w.heap.size, 26, 4, v4 n0 n1 n2 (.slice (some ⟨ba, oa, none⟩) L ca)⟩, ⟨w.heap.size + 1, 26, 4, v4 n0 n1 n2 (.slice (some ⟨bb, ob, none⟩) L cb)⟩]) wr from RH.out.congr (fun i hi => by unfold upZ; rw [if_pos (by omega)]))
              clear RH
              have RH := RHJ
              clear RHJ
              have a0 : wr.cell? ⟨w.heap.size, 0, none⟩ = some (.int .i64 n0) := (show World.rowIs wr (w.heap.size) 26 4 (v4 n0 n1 n2 (.slice (some ⟨ba, oa, none⟩) L ca)) from RH.out.one 10 (by simp)).cell (i := 0) (show 0 < 4 by first | decide | assumption | omega)
              have a1 : wr.cell? ⟨w.heap.size, 1, none⟩ = some (.int .i64 n1) := (show World.rowIs wr (w.heap.size) 26 4 (v4 n0 n1 n2 (.slice (some ⟨ba, oa, none⟩) L ca)) from RH.out.one 10 (by simp)).cell (i := 1) (show 1 < 4 by first | decide | assumption | omega)
              have a2 : wr.cell? ⟨w.heap.size, 2, none⟩ = some (.int .i64 n2) := (show World.rowIs wr (w.heap.size) 26 4 (v4 n0 n1 n2 (.slice (some ⟨ba, oa, none⟩) L ca)) from RH.out.one 10 (by simp)).cell (i := 2) (show 2 < 4 by first | decide | assumption | omega)
              have a3 : wr.cell? ⟨w.heap.size, 3, none⟩ = some (.slice (some ⟨ba, oa, none⟩) L ca) := (show World.rowIs wr (w.heap.size) 26 4 (v4 n0 n1 n2 (.slice (some ⟨ba, oa, none⟩) L ca)) from RH.out.one 10 (by simp)).cell (i := 3) (show 3 < 4 by first | decide | assumption | omega)
              have la : w.heap.size < wr.heap.size := (show World.rowIs wr (w.heap.size) 26 4 (v4 n0 n1 n2 (.slice (some ⟨ba, oa, none⟩) L ca)) from RH.out.one 10 (by simp)).lt
              have o0 : wr.cell? ⟨hc, 0, none⟩ = some (.int .i64 n0) := (show World.rowIs wr (hc) 26 4 (v4 n0 n1 n2 (.slice (some ⟨hs, 0, none⟩) L L)) from RH.out.one 1 (by simp)).cell (i := 0) (show 0 < 4 by first | decide | assumption | omega)
              have o1 : wr.cell? ⟨hc, 1, none⟩ = some (.int .i64 n1) := (show World.rowIs wr (hc) 26 4 (v4 n0 n1 n2 (.slice (some ⟨hs, 0, none⟩) L L)) from RH.out.one 1 (by simp)).cell (i := 1) (show 1 < 4 by first | decide | assumption | omega)
              have o2 : wr.cell? ⟨hc, 2, none⟩ = some (.int .i64 n2) := (show World.rowIs wr (hc) 26 4 (v4 n0 n1 n2 (.slice (some ⟨hs, 0, none⟩) L L)) from RH.out.one 1 (by simp)).cell (i := 2) (show 2 < 4 by first | decide | assumption | omega)
              have o3 : wr.cell? ⟨hc, 3, none⟩ = some (.slice (some ⟨hs, 0, none⟩) L L) := (show World.rowIs wr (hc) 26 4 (v4 n0 n1 n2 (.slice (some ⟨hs, 0, none⟩) L L)) from RH.out.one 1 (by simp)).cell (i := 3) (show 3 < 4 by first | decide | assumption | omega)
              have lo : hc < wr.heap.size := (show World.rowIs wr (hc) 26 4 (v4 n0 n1 n2 (.slice (some ⟨hs, 0, none⟩) L L)) from RH.out.one 1 (by simp)).lt
              clear hj2
              go_wp2_with fail
              refine (FOLD.out (fun u => W u + lone kk u) (fun i hi => by have h1 := HWB.out i hi; have h2 := UP.out i (by omega); unfold lone at h2 ⊢; split at h2 <;> split <;> omega) hs 0 L _ HB.out (show World.rowIs wr (hs) 3 L (fun u => .int .i64 (W u + lone kk u)) from RH.out.one 0 (by simp)).lt (fun i hi => by rw [Nat.zero_add]; exact (show World.rowIs wr (hs) 3 L (fun u => .int .i64 (W u + lone kk u)) from RH.out.one 0 (by simp)).cell hi)).mono ?_
              rintro e X9 ⟨⟨gg, rfl, hg9, hr9⟩, hb9⟩
              clear a0 a1 a2 a3 la o0 o1 o2 o3 lo hg9
              have hbx := hb9
              replace RH := Lib.hid (show Has [⟨gg, 3, L, fun i => .int .i64 ((foldZ n0 n1 n2 V (fun u => W u + lone kk u)) i)⟩, ⟨hs, 3, L, fun u => .int .i64 (W u + lone kk u)⟩, ⟨hc, 26, 4, v4 n0 n1 n2 (.slice (some ⟨hs, 0, none⟩) L L)⟩, ⟨W8.heap.size, 23, 3, v3 t0 t1 t2⟩, ⟨W7.heap.size, 26, 4, v4 n0 n1 n2 (.slice (some ⟨gm, 0, none⟩) L L)⟩, ⟨gm, 3, L, fun i => .int .i64 (foldZ n0 n1 n2 V (lone kk) i)⟩, ⟨gs, 3, L, fun i => .int .i64 (lone kk i)⟩, ⟨gc, 26, 4, v4 n0 n1 n2 (.slice (some ⟨gs, 0, none⟩) L L)⟩, ⟨g2, 3, L, fun i => .int .i64 (foldZ n0 n1 n2 V W i)⟩, ⟨W2.heap.size, 26, 4, v4 n0 n1 n2 (.slice (some ⟨g1, 0, none⟩) L L)⟩, ⟨g1, 3, L, fun i => .int .i64 (foldZ n0 n1 n2 V W i)⟩, ⟨w.heap.size, 26, 4, v4 n0 n1 n2 (.slice (some ⟨ba, oa, none⟩) L ca)⟩, ⟨w.heap.size + 1, 26, 4, v4 n0 n1 n2 (.slice (some ⟨bb, ob, none⟩) L cb)⟩] X9 from .cons (hr9) (RH.out.step hbx))
              replace HB := Lib.hid (HB.out.trans (hbx.mono HB.out.size))
              clear hbx hb9
              clear hr9
              have q3 : X9.cell? ⟨W2.heap.size, 3, none⟩ = some (.slice (some ⟨g1, 0, none⟩) L L) := (show World.rowIs X9 (W2.heap.size) 26 4 (v4 n0 n1 n2 (.slice (some ⟨g1, 0, none⟩) L L)) from RH.out.one 9 (by simp)).cell (i := 3) (show 3 < 4 by first | decide | assumption | omega)
              have lq : W2.heap.size < X9.heap.size := (show World.rowIs X9 (W2.heap.size) 26 4 (v4 n0 n1 n2 (.slice (some ⟨g1, 0, none⟩) L L)) from RH.out.one 9 (by simp)).lt
              have m3 : X9.cell? ⟨W7.heap.size, 3, none⟩ = some (.slice (some ⟨gm, 0, none⟩) L L) := (show World.rowIs X9 (W7.heap.size) 26 4 (v4 n0 n1 n2 (.slice (some ⟨gm, 0, none⟩) L L)) from RH.out.one 4 (by simp)).cell (i := 3) (show 3 < 4 by first | decide | assumption | omega)
              have lm : W7.heap.size < X9.heap.size := (show World.rowIs X9 (W7.heap.size) 26 4 (v4 n0 n1 n2 (.slice (some ⟨gm, 0, none⟩) L L)) from RH.out.one 4 (by simp)).lt
              go_wp2
              refine wp_abs (fun X => Has [⟨X9.heap.size, 26, 4, v4 n0 n1 n2 (.slice (some ⟨gg, 0, none⟩) L L)⟩, ⟨gg, 3, L, fun i => .int .i64 ((foldZ n0 n1 n2 V (fun u => W u + lone kk u)) i)⟩, ⟨hs, 3, L, fun u => .int .i64 (W u + lone kk u)⟩, ⟨hc, 26, 4, v4 n0 n1 n2 (.slice (some ⟨hs, 0, none⟩) L L)⟩, ⟨W8.heap.size, 23, 3, v3 t0 t1 t2⟩, ⟨W7.heap.size, 26, 4, v4 n0 n1 n2 (.slice (some ⟨gm, 0, none⟩) L L)⟩, ⟨gm, 3, L, fun i => .int .i64 (foldZ n0 n1 n2 V (lone kk) i)⟩, ⟨gs, 3, L, fun i => .int .i64 (lone kk i)⟩, ⟨gc, 26, 4, v4 n0 n1 n2 (.slice (some ⟨gs, 0, none⟩) L L)⟩, ⟨g2, 3, L, fun i => .int .i64 (foldZ n0 n1 n2 V W i)⟩, ⟨W2.heap.size, 26, 4, v4 n0 n1 n2 (.slice (some ⟨g1, 0, none⟩) L L)⟩, ⟨g1, 3, L, fun i => .int .i64 (foldZ n0 n1 n2 V W i)⟩, ⟨w.heap.size, 26, 4, v4 n0 n1 n2 (.slice (some ⟨ba, oa, none⟩) L ca)⟩, ⟨w.heap.size + 1, 26, 4, v4 n0 n1 n2 (.slice (some ⟨bb, ob, none⟩) L cb)⟩] X ∧ Below w.heap.size w X) ⟨.cons (v4_row X9 n0 n1 n2 (.slice (some ⟨gg, 0, none⟩) L L)) (RH.out.step (by repeat (first | assumption | exact Below.refl _ _ | refine below_drewN ?_ _ | refine Below.drew ?_ | refine Below.alloc ?_ (by first | (simp; done) | (simp; omega) | omega) _ | refine Below.setCell ?_ (by first | (simp; done) | (simp; omega) | omega) _))), HB.out.trans (Below.mono (B := X9.heap.size) (by repeat (first | assumption | exact Below.refl _ _ | refine below_drewN ?_ _ | refine Below.drew ?_ | refine Below.alloc ?_ (by first | (simp; done) | (simp; omega) | omega) _ | refine Below.setCell ?_ (by first | (simp; done) | (simp; omega) | omega) _)) HB.out.size)⟩ ?_
              intro Y hX
              have RHY := Lib.hid hX.1; have HBY := Lib.hid hX.2
              clear hX RH HB q3 lq m3 lm
              go_loopw [206] (fun y wr => ∃ t : Nat, t ≤ L ∧ y = .int .i64 t ∧ Has [⟨X9.heap.size, 26, 4, v4 n0 n1 n2 (.slice (some ⟨gg, 0, none⟩) L L)⟩, ⟨gg, 3, L, fun i => .int .i64 ((foldZ n0 n1 n2 V (fun u => W u + lone kk u)) i)⟩, ⟨hs, 3, L, fun u => .int .i64 (W u + lone kk u)⟩, ⟨hc, 26, 4, v4 n0 n1 n2 (.slice (some ⟨hs, 0, none⟩) L L)⟩, ⟨W8.heap.size, 23, 3, v3 t0 t1 t2⟩, ⟨W7.heap.size, 26, 4, v4 n0 n1 n2 (.slice (some ⟨gm, 0, none⟩) L L)⟩, ⟨gm, 3, L, fun i => .int .i64 (foldZ n0 n1 n2 V (lone kk) i)⟩, ⟨gs, 3, L, fun i => .int .i64 (lone kk i)⟩, ⟨gc, 26, 4, v4 n0 n1 n2 (.slice (some ⟨gs, 0, none⟩) L L)⟩, ⟨g2, 3, L, fun i => .int .i64 (foldZ n0 n1 n2 V W i)⟩, ⟨W2.heap.size, 26, 4, v4 n0 n1 n2 (.slice (some ⟨g1, 0, none⟩) L L)⟩, ⟨g1, 3, L, fun i => .int .i64 (foldZ n0 n1 n2 V W i)⟩, ⟨w.heap.size, 26, 4, v4 n0 n1 n2 (.slice (some ⟨ba, oa, none⟩) L ca)⟩, ⟨w.heap.size + 1, 26, 4, v4 n0 n1 n2 (.slice (some ⟨bb, ob, none⟩) L cb)⟩] wr ∧ Below w.heap.size w wr) (fun y _ => L - (RowKit.intOf y).toNat)
              case atStart => exact ⟨0, Nat.zero_le _, rfl, RHY.out, HBY.out⟩
              case round =>
                obtain ⟨t, ht, rfl, hrh, hhb⟩ := hrel
                have RH := Lib.hid hrh; have HB := Lib.hid hhb
                clear hrh hhb RHY HBY
                by_cases htL : t < L
                · have htl : (t : Int) < (L : Int) := by omega
                  have g3 : wr.cell? ⟨X9.heap.size, 3, none⟩ = some (.slice (some ⟨gg, 0, none⟩) L L) := (show World.rowIs wr (X9.heap.size) 26 4 (v4 n0 n1 n2 (.slice (some ⟨gg, 0, none⟩) L L)) from RH.out.one 0 (by simp)).cell (i := 3) (show 3 < 4 by first | decide | assumption | omega)
                  have lg : X9.heap.size < wr.heap.size := (show World.rowIs wr (X9.heap.size) 26 4 (v4 n0 n1 n2 (.slice (some ⟨gg, 0, none⟩) L L)) from RH.out.one 0 (by simp)).lt
                  have lgg : gg < wr.heap.size := (show World.rowIs wr (gg) 3 L (fun i => .int .i64 ((foldZ n0 n1 n2 V (fun u => W u + lone kk u)) i)) from RH.out.one 1 (by simp)).lt
                  have q3 : wr.cell? ⟨W2.heap.size, 3, none⟩ = some (.slice (some ⟨g1, 0, none⟩) L L) := (show World.rowIs wr (W2.heap.size) 26 4 (v4 n0 n1 n2 (.slice (some ⟨g1, 0, none⟩) L L)) from RH.out.one 10 (by simp)).cell (i := 3) (show 3 < 4 by first | decide | assumption | omega)
                  have lq : W2.heap.size < wr.heap.size := (show World.rowIs wr (W2.heap.size) 26 4 (v4 n0 n1 n2 (.slice (some ⟨g1, 0, none⟩) L L)) from RH.out.one 10 (by simp)).lt
                  have lc : g1 < wr.heap.size := (show World.rowIs wr (g1) 3 L (fun i => .int .i64 (foldZ n0 n1 n2 V W i)) from RH.out.one 11 (by simp)).lt
                  have m3 : wr.cell? ⟨W7.heap.size, 3, none⟩ = some (.slice (some ⟨gm, 0, none⟩) L L) := (show World.rowIs wr (W7.heap.size) 26 4 (v4 n0 n1 n2 (.slice (some ⟨gm, 0, none⟩) L L)) from RH.out.one 5 (by simp)).cell (i := 3) (show 3 < 4 by first | decide | assumption | omega)
                  have lm : W7.heap.size < wr.heap.size := (show World.rowIs wr (W7.heap.size) 26 4 (v4 n0 n1 n2 (.slice (some ⟨gm, 0, none⟩) L L)) from RH.out.one 5 (by simp)).lt
                  have lmm : gm < wr.heap.size := (show World.rowIs wr (gm) 3 L (fun i => .int .i64 (foldZ n0 n1 n2 V (lone kk) i)) from RH.out.one 6 (by simp)).lt
                  obtain ⟨x, ex⟩ : ∃ v, v = foldZ n0 n1 n2 V W t := ⟨_, rfl⟩
                  obtain ⟨y, ey⟩ : ∃ v, v = foldZ n0 n1 n2 V (lone kk) t := ⟨_, rfl⟩
                  have cx : wr.cell? ⟨g1, t, none⟩ = some (.int .i64 x) := by rw [ex]; exact (show World.rowIs wr (g1) 3 L (fun i => .int .i64 (foldZ n0 n1 n2 V W i)) from RH.out.one 11 (by simp)).cell htL
                  have cy : wr.cell? ⟨gm, t, none⟩ = some (.int .i64 y) := by rw [ey]; exact (show World.rowIs wr (gm) 3 L (fun i => .int .i64 (foldZ n0 n1 n2 V (lone kk) i)) from RH.out.one 6 (by simp)).cell htL
                  have cg : wr.cell? ⟨gg, t, none⟩ = some (.int .i64 (x + y)) := by rw [ex, ey, ← fold_plus n0 n1 n2 HBX.out.h1.1 HBX.out.h2.1]; exact (show World.rowIs wr (gg) 3 L (fun i => .int .i64 ((foldZ n0 n1 n2 V (fun u => W u + lone kk u)) i)) from RH.out.one 1 (by simp)).cell htL
                  have xb := FZB.out hL6 t htL
                  have yb := FMB.out hL6 kk t htL
                  rw [← ex] at xb
                  rw [← ey] at yb
                  have hw := IntWalk.i64_in (x + y) (by omega)
                  clear ex ey xb yb
                  go_wp2
                  go_quiet (fail)
                  go_wp2
                  go_roundw
                  case rel => exact ⟨t + 1, by omega, by go_num, ⟨fun r hr => (RH.out.all r hr).of_block rfl⟩, below_drewN HB.out _⟩
                  case measure => simp [RowKit.intOf]; omega
                · go_wp2
                  go_ret
                  exact ⟨rfl, HB.out⟩

end Go.Proofs.Ytjmhnmlmnlefaaa
