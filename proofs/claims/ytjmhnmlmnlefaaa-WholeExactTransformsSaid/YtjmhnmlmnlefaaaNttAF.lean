/-
  The document's fold walked.
-/
import Derived.Test.YtjmhnmlmnlefaaaNttAE
namespace Go.Proofs.Ytjmhnmlmnlefaaa
open Go.RowKit Go.Lib
attribute [local irreducible] World.setCell
set_option linter.unusedSimpArgs false
set_option linter.unusedVariables false


def v3 (n0 n1 n2 : Nat) (i : Nat) : Value := if i = 0 then .int .i64 n0 else if i = 1 then .int .i64 n1 else .int .i64 n2
def v4 (n0 n1 n2 : Nat) (s : Value) (i : Nat) : Value := if i = 0 then .int .i64 n0 else if i = 1 then .int .i64 n1 else if i = 2 then .int .i64 n2 else s
theorem v4_row (w : World) (n0 n1 n2 : Nat) (s : Value) : (w.alloc (.cells #[.int .i64 n0, .int .i64 n1, .int .i64 n2, s] 26)).rowIs w.heap.size 26 4 (v4 n0 n1 n2 s) :=
  World.rowIs_alloc w #[.int .i64 n0, .int .i64 n1, .int .i64 n2, s] 26 (v4 n0 n1 n2 s) (fun i hi => by match i, hi with | 0, _ => rfl | 1, _ => rfl | 2, _ => rfl | 3, _ => rfl)
theorem v3_row (w : World) (n0 n1 n2 : Nat) : (w.alloc (.cells #[.int .i64 n0, .int .i64 n1, .int .i64 n2] 23)).rowIs w.heap.size 23 3 (v3 n0 n1 n2) :=
  World.rowIs_alloc w #[.int .i64 n0, .int .i64 n1, .int .i64 n2] 23 (v3 n0 n1 n2) (fun i hi => by match i, hi with | 0, _ => rfl | 1, _ => rfl | 2, _ => rfl)
theorem v4_set {X : World} {g a0 a1 a2 n0 n1 n2 : Nat} {t s : Value} (h : X.rowIs g 26 4 (v4 a0 a1 a2 t)) : ((((X.setCell ⟨g, 0, none⟩ (.int .i64 n0)).setCell ⟨g, 1, none⟩ (.int .i64 n1)).setCell ⟨g, 2, none⟩ (.int .i64 n2)).setCell ⟨g, 3, none⟩ s).rowIs g 26 4 (v4 n0 n1 n2 s) :=
  ((((h.set 0 _).set 1 _).set 2 _).set 3 _).congr fun i hi => by match i, hi with | 0, _ => rfl | 1, _ => rfl | 2, _ => rfl | 3, _ => rfl
theorem v3_set {X : World} {g a0 a1 a2 n0 n1 n2 : Nat} (h : X.rowIs g 23 3 (v3 a0 a1 a2)) : (((X.setCell ⟨g, 0, none⟩ (.int .i64 n0)).setCell ⟨g, 1, none⟩ (.int .i64 n1)).setCell ⟨g, 2, none⟩ (.int .i64 n2)).rowIs g 23 3 (v3 n0 n1 n2) :=
  (((h.set 0 _).set 1 _).set 2 _).congr fun i hi => by match i, hi with | 0, _ => rfl | 1, _ => rfl | 2, _ => rfl
structure RF1 (w : World) (n0 n1 n2 L ba oa ca bb ob cb : Nat) (X : World) : Prop where
  below : Below w.heap.size w X
  size : X.heap.size = w.heap.size + 1 + 1 + 1 + 1
  a : X.rowIs w.heap.size 26 4 (v4 n0 n1 n2 (.slice (some ⟨ba, oa, none⟩) L ca))
  b : X.rowIs (w.heap.size + 1) 26 4 (v4 n0 n1 n2 (.slice (some ⟨bb, ob, none⟩) L cb))
  r : X.rowIs (w.heap.size + 1 + 1) 26 4 (v4 0 0 0 (.slice none 0 0))
  n : X.rowIs (w.heap.size + 1 + 1 + 1) 23 3 (v3 n0 n1 n2)
structure RF (w : World) (n0 n1 n2 L ba oa ca bb ob cb gs gc : Nat) (f : Nat → Int) (X : World) : Prop where
  below : Below w.heap.size w X
  size : w.heap.size + 1 + 1 + 1 + 1 + 1 < X.heap.size
  a : X.rowIs w.heap.size 26 4 (v4 n0 n1 n2 (.slice (some ⟨ba, oa, none⟩) L ca))
  b : X.rowIs (w.heap.size + 1) 26 4 (v4 n0 n1 n2 (.slice (some ⟨bb, ob, none⟩) L cb))
  r : X.rowIs (w.heap.size + 1 + 1) 26 4 (v4 0 0 0 (.slice none 0 0))
  n : X.rowIs (w.heap.size + 1 + 1 + 1) 23 3 (v3 n0 n1 n2)
  c : X.rowIs gc 26 4 (v4 n0 n1 n2 (.slice (some ⟨gs, 0, none⟩) L L))
  s : X.rowIs gs 3 L (fun u => .int .i64 (f u))
theorem RF.step {w : World} {n0 n1 n2 L ba oa ca bb ob cb gs gc : Nat} {f : Nat → Int} {X Y : World} {B : Nat} (h : RF w n0 n1 n2 L ba oa ca bb ob cb gs gc f X) (hb : Below B X Y) (hB : w.heap.size + 1 + 1 + 1 + 1 + 1 < B) (hs : gs ≤ w.heap.size + 1 + 1 + 1 + 1 + 1) (hc : gc ≤ w.heap.size + 1 + 1 + 1 + 1 + 1) : RF w n0 n1 n2 L ba oa ca bb ob cb gs gc f Y :=
  ⟨h.below.trans (hb.mono (by omega)), Nat.lt_of_lt_of_le h.size hb.size, h.a.of_block (hb.block _ (by omega)), h.b.of_block (hb.block _ (by omega)), h.r.of_block (hb.block _ (by omega)), h.n.of_block (hb.block _ (by omega)), h.c.of_block (hb.block _ (by omega)), h.s.of_block (hb.block _ (by omega))⟩
theorem RF.congr {w : World} {n0 n1 n2 L ba oa ca bb ob cb gs gc : Nat} {f g : Nat → Int} {X : World} (h : RF w n0 n1 n2 L ba oa ca bb ob cb gs gc f X) (e : ∀ u, u < L → f u = g u) : RF w n0 n1 n2 L ba oa ca bb ob cb gs gc g X :=
  ⟨h.below, h.size, h.a, h.b, h.r, h.n, h.c, h.s.congr fun u hu => by rw [e u hu]⟩
theorem RF.put {w : World} {n0 n1 n2 L ba oa ca bb ob cb gs gc : Nat} {f g : Nat → Int} {X : World} (h : RF w n0 n1 n2 L ba oa ca bb ob cb gs gc f X) (k : Nat) (v : Value) (hgc : gc ≠ gs) (hgs : w.heap.size + 1 + 1 + 1 < gs) (e : ∀ u, u < L → .int .i64 (g u) = if u = k then v else .int .i64 (f u)) : RF w n0 n1 n2 L ba oa ca bb ob cb gs gc g (X.setCell ⟨gs, k, none⟩ v) :=
  ⟨h.below.setCell (by simp; omega) _, by rw [World.size_setCell]; exact h.size, h.a.setOther (by simp; omega) _, h.b.setOther (by simp; omega) _, h.r.setOther (by simp; omega) _, h.n.setOther (by simp; omega) _, h.c.setOther (by simp; omega) _, (h.s.set k v).congr fun u hu => (e u hu).symm⟩
set_option maxHeartbeats 8000000 in
set_option maxRecDepth 100000 in
theorem RFold_ok (n0 n1 n2 L ba oa ca bb ob cb : Nat) (V W : Nat → Int) (w : World) (hr : rightB n0 = true ∧ rightB n1 = true ∧ rightB n2 = true) (hL : L = n0 * n1 * n2) (hLb : L ≤ 262144) (hba : ba < w.heap.size) (hbb : bb < w.heap.size)
    (hV : ∀ i, i < L → w.cell? ⟨ba, oa + i, none⟩ = some (.int .i64 (V i))) (hVb : ∀ i, i < L → -1048576 ≤ V i ∧ V i ≤ 1048576) (hW : ∀ i, i < L → w.cell? ⟨bb, ob + i, none⟩ = some (.int .i64 (W i))) (hWb : ∀ i, i < L → -1048576 ≤ W i ∧ W i ≤ 1048576) :
    Calls Try.prog 43 #[.agg #[.int .i64 n0, .int .i64 n1, .int .i64 n2, .slice (some ⟨ba, oa, none⟩) L ca], .agg #[.int .i64 n0, .int .i64 n1, .int .i64 n2, .slice (some ⟨bb, ob, none⟩) L cb]] w fun e w' => (∃ g, e = .returned (.agg #[.int .i64 n0, .int .i64 n1, .int .i64 n2, .slice (some ⟨g, 0, none⟩) L L]) ∧ w.heap.size ≤ g ∧ w'.rowIs g 3 L (fun i => .int .i64 (foldZ n0 n1 n2 V W i))) ∧ Below w.heap.size w w' := by
  have HBX := Lib.hid (box_of hr hL hLb)
  have HV := Lib.hid hV; have HW := Lib.hid hW; have HVB := Lib.hid hVb; have HWB := Lib.hid hWb
  have hLi : (L : Int) ≤ 262144 := by omega
  have hmk := mk24 L (by omega)
  have HMK := Lib.hid hmk
  clear hr hL hLb hV hW hVb hWb hmk
  go_enter Try.func43, Try.ntmps43
  go_wp2
  refine wp_abs (RF1 w n0 n1 n2 L ba oa ca bb ob cb) ⟨(by repeat (first | assumption | exact Below.refl _ _ | refine below_drewN ?_ _ | refine Below.drew ?_ | refine Below.alloc ?_ (by first | (simp; done) | (simp; omega) | omega) _ | refine Below.setCell ?_ (by first | (simp; done) | (simp; omega) | omega) _)), by simp, ?_, ?_, ?_, ?_⟩ ?_
  · exact (((v4_row w n0 n1 n2 (.slice (some ⟨ba, oa, none⟩) L ca)).alloc _).alloc _).alloc _
  · have := v4_row (w.alloc (.cells #[.int .i64 n0, .int .i64 n1, .int .i64 n2, .slice (some ⟨ba, oa, none⟩) L ca] 26)) n0 n1 n2 (.slice (some ⟨bb, ob, none⟩) L cb)
    simp only [World.size_alloc] at this
    exact (this.alloc _).alloc _
  · have := v4_row ((w.alloc (.cells #[.int .i64 n0, .int .i64 n1, .int .i64 n2, .slice (some ⟨ba, oa, none⟩) L ca] 26)).alloc (.cells #[.int .i64 n0, .int .i64 n1, .int .i64 n2, .slice (some ⟨bb, ob, none⟩) L cb] 26)) 0 0 0 (.slice none 0 0)
    simp only [World.size_alloc] at this
    exact this.alloc _
  · have := v3_row (((w.alloc (.cells #[.int .i64 n0, .int .i64 n1, .int .i64 n2, .slice (some ⟨ba, oa, none⟩) L ca] 26)).alloc (.cells #[.int .i64 n0, .int .i64 n1, .int .i64 n2, .slice (some ⟨bb, ob, none⟩) L cb] 26)).alloc (.cells #[.int .i64 0, .int .i64 0, .int .i64 0, .slice none 0 0] 26)) n0 n1 n2
    simp only [World.size_alloc] at this
    exact this
  intro w1 hfs
  have a0 := hfs.a.cell (i := 0) (by decide)
  have a1 := hfs.a.cell (i := 1) (by decide)
  have a2 := hfs.a.cell (i := 2) (by decide)
  have a3 := hfs.a.cell (i := 3) (by decide)
  have m0 := hfs.n.cell (i := 0) (by decide)
  have m1 := hfs.n.cell (i := 1) (by decide)
  have m2 := hfs.n.cell (i := 2) (by decide)
  simp only [v3, v4, if_true, reduceIte, Nat.reduceEqDiff, Nat.one_ne_zero] at a0 a1 a2 a3 m0 m1 m2
  have hmk := HMK.out
  have hsz := hfs.size
  have F1 := Lib.hid hfs
  clear hfs
  go_region_held3 (fun w' => w'.cell? ⟨w.heap.size, 3, none⟩ = some (.slice (some ⟨ba, oa, none⟩) L ca) ∧ w'.cell? ⟨w.heap.size + 1 + 1 + 1, 0, none⟩ = some (.int .i64 n0) ∧ w'.cell? ⟨w.heap.size + 1 + 1 + 1, 1, none⟩ = some (.int .i64 n1) ∧ w'.cell? ⟨w.heap.size + 1 + 1 + 1, 2, none⟩ = some (.int .i64 n2)) ((go_split_ands; (repeat' apply And.intro) <;> (first | assumption | (go_simp; done)))) (fail)
  · have hX : (((w1.alloc (.cells (madeCells #[.int .i64 0] L) 3)).alloc (.cells #[.int .i64 n0, .int .i64 n1, .int .i64 n2, .slice (some ⟨(w.heap.size + 1 + 1 + 1 + 1), 0, none⟩) L L] 26)).drew).heap.size = w.heap.size + 1 + 1 + 1 + 1 + 1 + 1 := by simp [hsz]
    have hbX : Below w1.heap.size w1 (((w1.alloc (.cells (madeCells #[.int .i64 0] L) 3)).alloc (.cells #[.int .i64 n0, .int .i64 n1, .int .i64 n2, .slice (some ⟨(w.heap.size + 1 + 1 + 1 + 1), 0, none⟩) L L] 26)).drew) := (by repeat (first | assumption | exact Below.refl _ _ | refine below_drewN ?_ _ | refine Below.drew ?_ | refine Below.alloc ?_ (by first | (simp; done) | (simp; omega) | omega) _ | refine Below.setCell ?_ (by first | (simp; done) | (simp; omega) | omega) _))
    have hc0 : (((w1.alloc (.cells (madeCells #[.int .i64 0] L) 3)).alloc (.cells #[.int .i64 n0, .int .i64 n1, .int .i64 n2, .slice (some ⟨(w.heap.size + 1 + 1 + 1 + 1), 0, none⟩) L L] 26)).drew).rowIs (w.heap.size + 1 + 1 + 1 + 1 + 1) 26 4 (v4 n0 n1 n2 (.slice (some ⟨(w.heap.size + 1 + 1 + 1 + 1), 0, none⟩) L L)) := by
      have := v4_row (w1.alloc (.cells (madeCells #[.int .i64 0] L) 3)) n0 n1 n2 (.slice (some ⟨(w.heap.size + 1 + 1 + 1 + 1), 0, none⟩) L L)
      simp only [World.size_alloc, hsz] at this
      exact this.drew
    have hs0 : (((w1.alloc (.cells (madeCells #[.int .i64 0] L) 3)).alloc (.cells #[.int .i64 n0, .int .i64 n1, .int .i64 n2, .slice (some ⟨(w.heap.size + 1 + 1 + 1 + 1), 0, none⟩) L L] 26)).drew).rowIs (w.heap.size + 1 + 1 + 1 + 1) 3 L (fun u => .int .i64 (acc n0 n1 n2 V W 0 0 u)) := by
      refine World.rowIs.congr (f := fun _ => .int .i64 0) ?_ (fun i _ => by rw [acc_start])
      have := (w1.rowIs_made (.int .i64 0) L 3).alloc (.cells #[.int .i64 n0, .int .i64 n1, .int .i64 n2, .slice (some ⟨(w.heap.size + 1 + 1 + 1 + 1), 0, none⟩) L L] 26)
      rw [hsz] at this
      exact this.drew
    have F0 : RF w n0 n1 n2 L ba oa ca bb ob cb (w.heap.size + 1 + 1 + 1 + 1) (w.heap.size + 1 + 1 + 1 + 1 + 1) (acc n0 n1 n2 V W 0 0) (((w1.alloc (.cells (madeCells #[.int .i64 0] L) 3)).alloc (.cells #[.int .i64 n0, .int .i64 n1, .int .i64 n2, .slice (some ⟨(w.heap.size + 1 + 1 + 1 + 1), 0, none⟩) L L] 26)).drew) := by
      have f := F1.out
      exact ⟨f.below.trans (hbX.mono (by rw [hsz]; omega)), by rw [hX]; omega, f.a.of_block (hbX.block _ (by omega)), f.b.of_block (hbX.block _ (by omega)), f.r.of_block (hbX.block _ (by omega)), f.n.of_block (hbX.block _ (by omega)), hc0, hs0⟩
    have G0 := Lib.hid F0
    have a3' : (((w1.alloc (.cells (madeCells #[.int .i64 0] L) 3)).alloc (.cells #[.int .i64 n0, .int .i64 n1, .int .i64 n2, .slice (some ⟨(w.heap.size + 1 + 1 + 1 + 1), 0, none⟩) L L] 26)).drew).cell? ⟨w.heap.size, 3, none⟩ = some (.slice (some ⟨ba, oa, none⟩) L ca) := F0.a.cell (i := 3) (by decide)
    have hgs : (w.heap.size + 1 + 1 + 1 + 1) ≤ w.heap.size + 1 + 1 + 1 + 1 + 1 := by omega
    have hgc : (w.heap.size + 1 + 1 + 1 + 1 + 1) ≤ w.heap.size + 1 + 1 + 1 + 1 + 1 := by omega
    clear hX hbX hc0 hs0 F0 a0 a1 a2 a3 m0 m1 m2 hmk F1
    simp only [Exit.then]
    go_wp2
    go_loopw [25] (fun x wr => ∃ i : Nat, i ≤ L ∧ x = .int .i64 i ∧ RF w n0 n1 n2 L ba oa ca bb ob cb (w.heap.size + 1 + 1 + 1 + 1) (w.heap.size + 1 + 1 + 1 + 1 + 1) (acc n0 n1 n2 V W i 0) wr) (fun x _ => L - (RowKit.intOf x).toNat)
    case atStart => exact ⟨0, Nat.zero_le _, rfl, G0.out⟩
    case round =>
      obtain ⟨i, hi, rfl, hf⟩ := hrel
      have QF := Lib.hid hf
      clear hf a3' hsz G0
      by_cases hiL : i < L
      · have hf := QF.out
        obtain ⟨v, ev⟩ : ∃ v, v = V i := ⟨_, rfl⟩
        have cv : wr.cell? ⟨ba, oa + i, none⟩ = some (.int .i64 v) := by rw [ev]; exact (hf.below.cell (p := ⟨ba, oa + i, none⟩) hba).trans (HV.out i hiL)
        have hil : (i : Int) < (L : Int) := by omega
        have hsw := hf.size
        have m0 : wr.cell? ⟨w.heap.size + 1 + 1 + 1, 0, none⟩ = some (.int .i64 n0) := hf.n.cell (i := 0) (by decide)
        have m1 : wr.cell? ⟨w.heap.size + 1 + 1 + 1, 1, none⟩ = some (.int .i64 n1) := hf.n.cell (i := 1) (by decide)
        have m2 : wr.cell? ⟨w.heap.size + 1 + 1 + 1, 2, none⟩ = some (.int .i64 n2) := hf.n.cell (i := 2) (by decide)
        have EV := Lib.hid ev; clear ev hf
        by_cases hv : v = 0
        · subst hv
          go_wp2
          go_roundw
          case rel => exact ⟨i + 1, by omega, by go_num, QF.out.congr (fun u _ => (acc_skip n0 n1 n2 V W i u EV.out.symm).symm)⟩
          case measure => simp [RowKit.intOf]; omega
        · have hv' : (v == 0) = false := by rw [beq_eq_false_iff_ne]; exact hv
          have HVJ := Lib.hid (EV.out ▸ HVB.out i hiL)
          go_wp2_with fail
          refine (At_any n0 n1 n2 i _ ⟨HBX.out.h1.1, HBX.out.h1.2.2⟩ ⟨HBX.out.h2.1, HBX.out.h2.2.2⟩ (by omega)).mono ?_
          rintro e w2 ⟨rfl, hb2⟩
          have Q2 := Lib.hid (QF.out.step (B := wr.heap.size) hb2 hsw hgs hgc)
          have h2s := Q2.out.size
          have l1 : w.heap.size + 1 < w2.heap.size := by omega
          have b3 : w2.cell? ⟨w.heap.size + 1, 3, none⟩ = some (.slice (some ⟨bb, ob, none⟩) L cb) := Q2.out.b.cell (i := 3) (by decide)
          clear hb2 QF m0 m1 m2 cv hsw
          obtain ⟨x0, ex0⟩ : ∃ x, x = at0 n1 n2 i := ⟨_, rfl⟩
          obtain ⟨x1, ex1⟩ : ∃ x, x = at1 n1 n2 i := ⟨_, rfl⟩
          obtain ⟨x2, ex2⟩ : ∃ x, x = at2 n2 i := ⟨_, rfl⟩
          rw [← ex0, ← ex1, ← ex2]
          have EX := Lib.hid (And.intro ex0 (And.intro ex1 ex2))
          have XB := Lib.hid (show x0 < n0 ∧ x1 < n1 ∧ x2 < n2 from ⟨ex0 ▸ at0_lt (by rw [← HBX.out.hL]; exact hiL), ex1 ▸ at1_lt HBX.out.h1.1, ex2 ▸ at2_lt HBX.out.h2.1⟩)
          clear ex0 ex1 ex2
          go_wp2
          refine wp_abs (fun X => RF w n0 n1 n2 L ba oa ca bb ob cb (w.heap.size + 1 + 1 + 1 + 1) (w.heap.size + 1 + 1 + 1 + 1 + 1) (acc n0 n1 n2 V W i 0) X ∧ X.rowIs w2.heap.size 23 3 (v3 x0 x1 x2)) ⟨Q2.out.step (B := w2.heap.size) ((by repeat (first | assumption | exact Below.refl _ _ | refine below_drewN ?_ _ | refine Below.drew ?_ | refine Below.alloc ?_ (by first | (simp; done) | (simp; omega) | omega) _ | refine Below.setCell ?_ (by first | (simp; done) | (simp; omega) | omega) _))) h2s hgs hgc, v3_row w2 x0 x1 x2⟩ ?_
          intro w3 hq
          obtain ⟨q1, q2⟩ := hq
          have Q3 := Lib.hid q1; have X3 := Lib.hid q2
          clear q1 q2 Q2 b3 l1
          go_loopw [38] (fun y wr => ∃ j : Nat, j ≤ L ∧ y = .int .i64 j ∧ RF w n0 n1 n2 L ba oa ca bb ob cb (w.heap.size + 1 + 1 + 1 + 1) (w.heap.size + 1 + 1 + 1 + 1 + 1) (acc n0 n1 n2 V W i j) wr ∧ wr.rowIs w2.heap.size 23 3 (v3 x0 x1 x2)) (fun y _ => L - (RowKit.intOf y).toNat)
          case atStart => exact ⟨0, Nat.zero_le _, rfl, Q3.out, X3.out⟩
          case round =>
            obtain ⟨j, hj, rfl, hf, hx⟩ := hrel
            have QF := Lib.hid hf; have QX := Lib.hid hx
            clear hx Q3 X3
            by_cases hjL : j < L
            · obtain ⟨wj, ew⟩ : ∃ v, v = W j := ⟨_, rfl⟩
              have cw : wr.cell? ⟨bb, ob + j, none⟩ = some (.int .i64 wj) := by rw [ew]; exact (hf.below.cell (p := ⟨bb, ob + j, none⟩) hbb).trans (HW.out j hjL)
              have hjl : (j : Int) < (L : Int) := by omega
              have hsw := hf.size
              have m0 : wr.cell? ⟨w.heap.size + 1 + 1 + 1, 0, none⟩ = some (.int .i64 n0) := hf.n.cell (i := 0) (by decide)
              have m1 : wr.cell? ⟨w.heap.size + 1 + 1 + 1, 1, none⟩ = some (.int .i64 n1) := hf.n.cell (i := 1) (by decide)
              have m2 : wr.cell? ⟨w.heap.size + 1 + 1 + 1, 2, none⟩ = some (.int .i64 n2) := hf.n.cell (i := 2) (by decide)
              have EW := Lib.hid ew; clear ew hf
              have HWJ := Lib.hid (EW.out ▸ HWB.out j hjL)
              go_wp2_with fail
              refine (At_any n0 n1 n2 j _ ⟨HBX.out.h1.1, HBX.out.h1.2.2⟩ ⟨HBX.out.h2.1, HBX.out.h2.2.2⟩ (by omega)).mono ?_
              rintro e w4 ⟨rfl, hb4⟩
              have Q4 := Lib.hid (QF.out.step (B := wr.heap.size) hb4 hsw hgs hgc)
              have X4 := Lib.hid (QX.out.of_block (hb4.block _ QX.out.lt))
              have h4s := Q4.out.size
              have hx4 := X4.out.lt
              clear hb4 QF QX m0 m1 m2 cw hsw
              obtain ⟨y0, ey0⟩ : ∃ x, x = at0 n1 n2 j := ⟨_, rfl⟩
              obtain ⟨y1, ey1⟩ : ∃ x, x = at1 n1 n2 j := ⟨_, rfl⟩
              obtain ⟨y2, ey2⟩ : ∃ x, x = at2 n2 j := ⟨_, rfl⟩
              rw [← ey0, ← ey1, ← ey2]
              have EY := Lib.hid (And.intro ey0 (And.intro ey1 ey2))
              have YB := Lib.hid (show y0 < n0 ∧ y1 < n1 ∧ y2 < n2 from ⟨ey0 ▸ at0_lt (by rw [← HBX.out.hL]; exact hjL), ey1 ▸ at1_lt HBX.out.h1.1, ey2 ▸ at2_lt HBX.out.h2.1⟩)
              clear ey0 ey1 ey2
              go_wp2
              refine wp_abs (fun X => RF w n0 n1 n2 L ba oa ca bb ob cb (w.heap.size + 1 + 1 + 1 + 1) (w.heap.size + 1 + 1 + 1 + 1 + 1) (acc n0 n1 n2 V W i j) X ∧ X.rowIs w2.heap.size 23 3 (v3 x0 x1 x2) ∧ X.rowIs w4.heap.size 23 3 (v3 y0 y1 y2)) ⟨Q4.out.step (B := w4.heap.size) ((by repeat (first | assumption | exact Below.refl _ _ | refine below_drewN ?_ _ | refine Below.drew ?_ | refine Below.alloc ?_ (by first | (simp; done) | (simp; omega) | omega) _ | refine Below.setCell ?_ (by first | (simp; done) | (simp; omega) | omega) _))) h4s hgs hgc, X4.out.alloc _, v3_row w4 y0 y1 y2⟩ ?_
              intro w5 hq
              obtain ⟨q1, q2, q3⟩ := hq
              have m0 : w5.cell? ⟨w.heap.size + 1 + 1 + 1, 0, none⟩ = some (.int .i64 n0) := q1.n.cell (i := 0) (by decide)
              have m1 : w5.cell? ⟨w.heap.size + 1 + 1 + 1, 1, none⟩ = some (.int .i64 n1) := q1.n.cell (i := 1) (by decide)
              have m2 : w5.cell? ⟨w.heap.size + 1 + 1 + 1, 2, none⟩ = some (.int .i64 n2) := q1.n.cell (i := 2) (by decide)
              have a0 : w5.cell? ⟨w2.heap.size, 0, none⟩ = some (.int .i64 x0) := q2.cell (i := 0) (by decide)
              have a1 : w5.cell? ⟨w2.heap.size, 1, none⟩ = some (.int .i64 x1) := q2.cell (i := 1) (by decide)
              have a2 : w5.cell? ⟨w2.heap.size, 2, none⟩ = some (.int .i64 x2) := q2.cell (i := 2) (by decide)
              have d0 : w5.cell? ⟨w4.heap.size, 0, none⟩ = some (.int .i64 y0) := q3.cell (i := 0) (by decide)
              have d1 : w5.cell? ⟨w4.heap.size, 1, none⟩ = some (.int .i64 y1) := q3.cell (i := 1) (by decide)
              have d2 : w5.cell? ⟨w4.heap.size, 2, none⟩ = some (.int .i64 y2) := q3.cell (i := 2) (by decide)
              have h5s := q1.size
              have c3 : w5.cell? ⟨(w.heap.size + 1 + 1 + 1 + 1 + 1), 3, none⟩ = some (.slice (some ⟨(w.heap.size + 1 + 1 + 1 + 1), 0, none⟩) L L) := q1.c.cell (i := 3) (by decide)
              have Q5 := Lib.hid q1; have X5 := Lib.hid q2
              have hx5 := q2.lt
              have hy5 := q3.lt
              have l3 : w.heap.size + 1 + 1 + 1 < w5.heap.size := by omega
              have lgc : (w.heap.size + 1 + 1 + 1 + 1 + 1) < w5.heap.size := by omega
              have lgs : (w.heap.size + 1 + 1 + 1 + 1) < w5.heap.size := by omega
              clear q1 q2 q3 Q4 X4
              obtain ⟨u0, eu0⟩ : ∃ u, u = (x0 + y0) % n0 := ⟨_, rfl⟩
              obtain ⟨u1, eu1⟩ : ∃ u, u = (x1 + y1) % n1 := ⟨_, rfl⟩
              obtain ⟨u2, eu2⟩ : ∃ u, u = (x2 + y2) % n2 := ⟨_, rfl⟩
              have h0 := HBX.out.h0; have h1 := HBX.out.h1; have h2 := HBX.out.h2
              have xb := XB.out; have yb := YB.out
              have hu0 : ((x0 : Int) + (y0 : Int)) % (n0 : Int) = (u0 : Int) := by rw [eu0]; rfl
              have hu1 : ((x1 : Int) + (y1 : Int)) % (n1 : Int) = (u1 : Int) := by rw [eu1]; rfl
              have hu2 : ((x2 : Int) + (y2 : Int)) % (n2 : Int) = (u2 : Int) := by rw [eu2]; rfl
              have UB := Lib.hid (show u0 ≤ 192 ∧ u1 ≤ 192 ∧ u2 ≤ 192 from ⟨by rw [eu0]; have := Nat.mod_lt (x0 + y0) h0.1; omega, by rw [eu1]; have := Nat.mod_lt (x1 + y1) h1.1; omega, by rw [eu2]; have := Nat.mod_lt (x2 + y2) h2.1; omega⟩)
              have hk0 : (u0 * n1 + u1) * n2 + u2 = num n0 n1 n2 i j := by
                unfold num enc
                rw [← EX.out.1, ← EX.out.2.1, ← EX.out.2.2, ← EY.out.1, ← EY.out.2.1, ← EY.out.2.2, eu0, eu1, eu2]
              obtain ⟨k, ek⟩ : ∃ k, k = (u0 * n1 + u1) * n2 + u2 := ⟨_, rfl⟩
              have hkL : k < L := by rw [ek, hk0, HBX.out.hL]; exact num_lt h0.1 h1.1 h2.1 _ _
              have HNUM := Lib.hid (fun w' => ek ▸ Number_any n0 n1 n2 u0 u1 u2 w' h1.2.2 h2.2.2 UB.out.1 UB.out.2.1 UB.out.2.2)
              rw [← ek] at hk0
              have HK := Lib.hid hk0
              have i0 : (0 : Int) ≤ x0 + y0 ∧ (x0 : Int) + y0 ≤ 400 := by omega
              have i1 : (0 : Int) ≤ x1 + y1 ∧ (x1 : Int) + y1 ≤ 400 := by omega
              have i2 : (0 : Int) ≤ x2 + y2 ∧ (x2 : Int) + y2 ≤ 400 := by omega
              have w0 : IntKind.i64.wrap ((x0 : Int) + (y0 : Int)) = (x0 : Int) + (y0 : Int) := by rw [IntKind.wrap_i64]; omega
              have w1' : IntKind.i64.wrap ((x1 : Int) + (y1 : Int)) = (x1 : Int) + (y1 : Int) := by rw [IntKind.wrap_i64]; omega
              have w2' : IntKind.i64.wrap ((x2 : Int) + (y2 : Int)) = (x2 : Int) + (y2 : Int) := by rw [IntKind.wrap_i64]; omega
              obtain ⟨i00, i01⟩ := i0; obtain ⟨i10, i11⟩ := i1; obtain ⟨i20, i21⟩ := i2
              have t0 : ((x0 : Int) + (y0 : Int)).tmod (n0 : Int) = (u0 : Int) := by rw [Int.tmod_eq_emod_of_nonneg i00]; exact hu0
              have t1 : ((x1 : Int) + (y1 : Int)).tmod (n1 : Int) = (u1 : Int) := by rw [Int.tmod_eq_emod_of_nonneg i10]; exact hu1
              have t2 : ((x2 : Int) + (y2 : Int)).tmod (n2 : Int) = (u2 : Int) := by rw [Int.tmod_eq_emod_of_nonneg i20]; exact hu2
              have ub := UB.out
              have k0 : IntKind.i64.wrap (u0 : Int) = (u0 : Int) := by rw [IntKind.wrap_i64]; omega
              have k1 : IntKind.i64.wrap (u1 : Int) = (u1 : Int) := by rw [IntKind.wrap_i64]; omega
              have k2 : IntKind.i64.wrap (u2 : Int) = (u2 : Int) := by rw [IntKind.wrap_i64]; omega
              have p0 : (1 : Int) ≤ n0 := by omega
              have p1 : (1 : Int) ≤ n1 := by omega
              have p2 : (1 : Int) ≤ n2 := by omega
              clear ub
              have zn0 : ¬ n0 = 0 := by omega
              have zn1 : ¬ n1 = 0 := by omega
              have zn2 : ¬ n2 = 0 := by omega
              have z0 : ¬ (n0 : Int) = 0 := by omega
              have z1 : ¬ (n1 : Int) = 0 := by omega
              have z2 : ¬ (n2 : Int) = 0 := by omega
              clear ek hk0 eu0 eu1 eu2 h0 h1 h2 xb yb
              go_region_held3 (fun w' => (w'.cell? ⟨w.heap.size + 1 + 1 + 1, 0, none⟩ = some (.int .i64 n0) ∧ w'.cell? ⟨w.heap.size + 1 + 1 + 1, 1, none⟩ = some (.int .i64 n1) ∧ w'.cell? ⟨w.heap.size + 1 + 1 + 1, 2, none⟩ = some (.int .i64 n2)) ∧ (w'.cell? ⟨w2.heap.size, 0, none⟩ = some (.int .i64 x0) ∧ w'.cell? ⟨w2.heap.size, 1, none⟩ = some (.int .i64 x1) ∧ w'.cell? ⟨w2.heap.size, 2, none⟩ = some (.int .i64 x2)) ∧ (w'.cell? ⟨w4.heap.size, 0, none⟩ = some (.int .i64 y0) ∧ w'.cell? ⟨w4.heap.size, 1, none⟩ = some (.int .i64 y1) ∧ w'.cell? ⟨w4.heap.size, 2, none⟩ = some (.int .i64 y2))) ((go_split_ands; (repeat' apply And.intro) <;> (first | assumption | (go_simp; done)))) (fail)
              have Q6 := Lib.hid (Q5.out.step (B := w5.heap.size) (Y := (w5.alloc (.cells #[.int .i64 u0, .int .i64 u1, .int .i64 u2] 23)).drew) ((by repeat (first | assumption | exact Below.refl _ _ | refine below_drewN ?_ _ | refine Below.drew ?_ | refine Below.alloc ?_ (by first | (simp; done) | (simp; omega) | omega) _ | refine Below.setCell ?_ (by first | (simp; done) | (simp; omega) | omega) _))) h5s hgs hgc)
              have X6 := Lib.hid ((X5.out.alloc (.cells #[.int .i64 u0, .int .i64 u1, .int .i64 u2] 23)).drew)
              have U6 := Lib.hid ((v3_row w5 u0 u1 u2).drew)
              clear m0 m1 m2 a0 a1 a2 d0 d1 d2 c3 Q5 X5 l3 lgc lgs hx5 hy5 hu0 hu1 hu2 w0 w1' w2' t0 t1 t2 k0 k1 k2 zn0 zn1 zn2 z0 z1 z2 i00 i01 i10 i11 i20 i21
              simp only [Exit.then]
              go_wp2
              refine wp_abs (fun X => RF w n0 n1 n2 L ba oa ca bb ob cb (w.heap.size + 1 + 1 + 1 + 1) (w.heap.size + 1 + 1 + 1 + 1 + 1) (acc n0 n1 n2 V W i j) X ∧ X.rowIs w2.heap.size 23 3 (v3 x0 x1 x2) ∧ X.rowIs w5.heap.size 23 3 (v3 u0 u1 u2)) ⟨Q6.out, X6.out, U6.out⟩ ?_
              intro w6 hq
              obtain ⟨q1, q2, q3⟩ := hq
              have m0 : w6.cell? ⟨w.heap.size + 1 + 1 + 1, 0, none⟩ = some (.int .i64 n0) := q1.n.cell (i := 0) (by decide)
              have m1 : w6.cell? ⟨w.heap.size + 1 + 1 + 1, 1, none⟩ = some (.int .i64 n1) := q1.n.cell (i := 1) (by decide)
              have m2 : w6.cell? ⟨w.heap.size + 1 + 1 + 1, 2, none⟩ = some (.int .i64 n2) := q1.n.cell (i := 2) (by decide)
              have d0 : w6.cell? ⟨w5.heap.size, 0, none⟩ = some (.int .i64 u0) := q3.cell (i := 0) (by decide)
              have d1 : w6.cell? ⟨w5.heap.size, 1, none⟩ = some (.int .i64 u1) := q3.cell (i := 1) (by decide)
              have d2 : w6.cell? ⟨w5.heap.size, 2, none⟩ = some (.int .i64 u2) := q3.cell (i := 2) (by decide)
              have h6s := q1.size
              have c3 : w6.cell? ⟨(w.heap.size + 1 + 1 + 1 + 1 + 1), 3, none⟩ = some (.slice (some ⟨(w.heap.size + 1 + 1 + 1 + 1), 0, none⟩) L L) := q1.c.cell (i := 3) (by decide)
              obtain ⟨sk, esk⟩ : ∃ s, s = acc n0 n1 n2 V W i j k := ⟨_, rfl⟩
              have cs : w6.cell? ⟨(w.heap.size + 1 + 1 + 1 + 1), k, none⟩ = some (.int .i64 sk) := by rw [esk]; exact q1.s.cell hkL
              have hfr : w6.frozen? ⟨(w.heap.size + 1 + 1 + 1 + 1), k, none⟩ = false := q1.s.frozen k
              have Q7 := Lib.hid q1; have X7 := Lib.hid q2
              have hx6 := q2.lt
              have hy6 := q3.lt
              have l3 : w.heap.size + 1 + 1 + 1 < w6.heap.size := by omega
              have lgc : (w.heap.size + 1 + 1 + 1 + 1 + 1) < w6.heap.size := by omega
              have lgs : (w.heap.size + 1 + 1 + 1 + 1) < w6.heap.size := by omega
              have hkl : (k : Int) < (L : Int) := by omega
              have hab := acc_bound HBX.out.h0.1 HBX.out.h1.1 HBX.out.h2.1 (V := V) (W := W) (by rw [← HBX.out.hL]; exact HVB.out) (by rw [← HBX.out.hL]; exact HWB.out) (i := i) (by rw [← HBX.out.hL]; exact hiL) (by rw [← HBX.out.hL]; exact HBX.out.hb) j k
              rw [← esk] at hab
              have hpb := prod_bd HVJ.out HWJ.out
              obtain ⟨pr, epr⟩ : ∃ s, s = v * wj := ⟨_, rfl⟩
              rw [← epr] at hpb
              have hw1 : IntKind.i64.wrap (v * wj) = pr := by rw [← epr, IntKind.wrap_i64]; omega
              have hw2 : IntKind.i64.wrap (sk + pr) = sk + pr := by rw [IntKind.wrap_i64]; omega
              have ESK := Lib.hid esk; have EPR := Lib.hid epr
              clear q1 q2 q3 Q6 X6 U6 esk epr hab hpb
              refine region_head 12 (by kernel_rfl) (by kernel_rfl) ?_
              simp only [List.take_succ_cons, List.take_zero, List.drop_succ_cons, List.drop_zero]
              repeat (go_big_quiet_step ((go_at_call 21; exact held_of _ (Nat.le_refl _) (HNUM.out _))))
              refine wpQuiet_nil ?_
              rintro w7 ⟨⟨w0, hb⟩, rfl⟩
              have Q8 := Lib.hid (Q7.out.step (B := w6.heap.size) hb h6s hgs hgc)
              have X8 := Lib.hid (X7.out.of_block (hb.block _ hx6))
              have q8 := Q8.out.s
              have hfr8 : w7.frozen? ⟨(w.heap.size + 1 + 1 + 1 + 1), k, none⟩ = false := q8.frozen k
              have cs8 : w7.cell? ⟨(w.heap.size + 1 + 1 + 1 + 1), k, none⟩ = some (.int .i64 sk) := by rw [ESK.out]; exact q8.cell hkL
              clear hb q8 m0 m1 m2 d0 d1 d2 c3 cs hfr l3 lgc lgs Q7 X7
              go_wp2
              go_roundw
              case rel =>
                refine ⟨j + 1, by omega, by go_num, Q8.out.put k _ (by omega) (by omega) (fun u hu => ?_), X8.out.setOther (by simp; omega) _⟩
                rw [acc_step HBX.out.h1.1 HBX.out.h2.1 V W (by rw [← HBX.out.hL]; exact hiL) (by rw [← HBX.out.hL]; exact hjL) (by rw [← HBX.out.hL]; exact hu), ← HK.out]
                by_cases e : u = k
                · rw [if_pos e, if_pos e, e, ← ESK.out, ← EV.out, ← EW.out, ← EPR.out]
                · rw [if_neg e, if_neg e, Int.add_zero]
              case measure => simp [RowKit.intOf]; omega
            · have hj' : j = L := by omega
              have QR := Lib.hid (QF.out.congr (g := acc n0 n1 n2 V W (i + 1) 0) (fun u _ => by rw [hj', acc_row HBX.out.h0.1 HBX.out.h1.1 HBX.out.h2.1, HBX.out.hL]))
              clear hj' hf QF QX
              go_wp2
              go_roundw
              case rel => exact ⟨i + 1, by omega, by go_num, QR.out⟩
              case measure => simp [RowKit.intOf]; omega
      · have hi' : i = L := by omega
        have hf := QF.out
        have c0 : wr.cell? ⟨(w.heap.size + 1 + 1 + 1 + 1 + 1), 0, none⟩ = some (.int .i64 n0) := hf.c.cell (i := 0) (by decide)
        have c1 : wr.cell? ⟨(w.heap.size + 1 + 1 + 1 + 1 + 1), 1, none⟩ = some (.int .i64 n1) := hf.c.cell (i := 1) (by decide)
        have c2 : wr.cell? ⟨(w.heap.size + 1 + 1 + 1 + 1 + 1), 2, none⟩ = some (.int .i64 n2) := hf.c.cell (i := 2) (by decide)
        have c3 : wr.cell? ⟨(w.heap.size + 1 + 1 + 1 + 1 + 1), 3, none⟩ = some (.slice (some ⟨(w.heap.size + 1 + 1 + 1 + 1), 0, none⟩) L L) := hf.c.cell (i := 3) (by decide)
        have r0 : wr.cell? ⟨w.heap.size + 1 + 1, 0, none⟩ = some (.int .i64 ((0 : Nat) : Int)) := hf.r.cell (i := 0) (by decide)
        have r1 : wr.cell? ⟨w.heap.size + 1 + 1, 1, none⟩ = some (.int .i64 ((0 : Nat) : Int)) := hf.r.cell (i := 1) (by decide)
        have r2 : wr.cell? ⟨w.heap.size + 1 + 1, 2, none⟩ = some (.int .i64 ((0 : Nat) : Int)) := hf.r.cell (i := 2) (by decide)
        have r3 : wr.cell? ⟨w.heap.size + 1 + 1, 3, none⟩ = some (.slice none 0 0) := hf.r.cell (i := 3) (by decide)
        have rf : ∀ o, wr.frozen? ⟨w.heap.size + 1 + 1, o, none⟩ = false := fun o => hf.r.frozen o
        have HFIN := Lib.hid (show wr.rowIs (w.heap.size + 1 + 1 + 1 + 1) 3 L (fun u => .int .i64 (foldZ n0 n1 n2 V W u)) from hf.s.congr (fun u _ => by rw [hi', HBX.out.hL, acc_end HBX.out.h1.1 HBX.out.h2.1]))
        clear hf hi'
        go_wp2
        refine bodyPost_ret (v := .agg #[.int .i64 n0, .int .i64 n1, .int .i64 n2, .slice (some ⟨(w.heap.size + 1 + 1 + 1 + 1), 0, none⟩) L L]) (by simp [results, Try.results43, go_sem, *]) rfl ⟨⟨(w.heap.size + 1 + 1 + 1 + 1), rfl, by omega, ?_⟩, ?_⟩
        · exact (((HFIN.out.setOther (by first | (simp; done) | (simp; omega)) _).setOther (by first | (simp; done) | (simp; omega)) _).setOther (by first | (simp; done) | (simp; omega)) _).setOther (by first | (simp; done) | (simp; omega)) _
        · exact (((QF.out.below.setCell (by simp; omega) _).setCell (by simp; omega) _).setCell (by simp; omega) _).setCell (by simp; omega) _
  · have hX : (((w1.alloc (.cells #[.int .i64 n0, .int .i64 n1, .int .i64 n2, .slice (some ⟨(w.heap.size + 1 + 1 + 1 + 1 + 1), 0, none⟩) L L] 26)).alloc (.cells (madeCells #[.int .i64 0] L) 3)).drew).heap.size = w.heap.size + 1 + 1 + 1 + 1 + 1 + 1 := by simp [hsz]
    have hbX : Below w1.heap.size w1 (((w1.alloc (.cells #[.int .i64 n0, .int .i64 n1, .int .i64 n2, .slice (some ⟨(w.heap.size + 1 + 1 + 1 + 1 + 1), 0, none⟩) L L] 26)).alloc (.cells (madeCells #[.int .i64 0] L) 3)).drew) := (by repeat (first | assumption | exact Below.refl _ _ | refine below_drewN ?_ _ | refine Below.drew ?_ | refine Below.alloc ?_ (by first | (simp; done) | (simp; omega) | omega) _ | refine Below.setCell ?_ (by first | (simp; done) | (simp; omega) | omega) _))
    have hc0 : (((w1.alloc (.cells #[.int .i64 n0, .int .i64 n1, .int .i64 n2, .slice (some ⟨(w.heap.size + 1 + 1 + 1 + 1 + 1), 0, none⟩) L L] 26)).alloc (.cells (madeCells #[.int .i64 0] L) 3)).drew).rowIs (w.heap.size + 1 + 1 + 1 + 1) 26 4 (v4 n0 n1 n2 (.slice (some ⟨(w.heap.size + 1 + 1 + 1 + 1 + 1), 0, none⟩) L L)) := by
      have := (v4_row w1 n0 n1 n2 (.slice (some ⟨(w.heap.size + 1 + 1 + 1 + 1 + 1), 0, none⟩) L L)).alloc (.cells (madeCells #[.int .i64 0] L) 3)
      rw [hsz] at this
      exact this.drew
    have hs0 : (((w1.alloc (.cells #[.int .i64 n0, .int .i64 n1, .int .i64 n2, .slice (some ⟨(w.heap.size + 1 + 1 + 1 + 1 + 1), 0, none⟩) L L] 26)).alloc (.cells (madeCells #[.int .i64 0] L) 3)).drew).rowIs (w.heap.size + 1 + 1 + 1 + 1 + 1) 3 L (fun u => .int .i64 (acc n0 n1 n2 V W 0 0 u)) := by
      refine World.rowIs.congr (f := fun _ => .int .i64 0) ?_ (fun i _ => by rw [acc_start])
      have := (w1.alloc (.cells #[.int .i64 n0, .int .i64 n1, .int .i64 n2, .slice (some ⟨(w.heap.size + 1 + 1 + 1 + 1 + 1), 0, none⟩) L L] 26)).rowIs_made (.int .i64 0) L 3
      simp only [World.size_alloc, hsz] at this
      exact this.drew
    have F0 : RF w n0 n1 n2 L ba oa ca bb ob cb (w.heap.size + 1 + 1 + 1 + 1 + 1) (w.heap.size + 1 + 1 + 1 + 1) (acc n0 n1 n2 V W 0 0) (((w1.alloc (.cells #[.int .i64 n0, .int .i64 n1, .int .i64 n2, .slice (some ⟨(w.heap.size + 1 + 1 + 1 + 1 + 1), 0, none⟩) L L] 26)).alloc (.cells (madeCells #[.int .i64 0] L) 3)).drew) := by
      have f := F1.out
      exact ⟨f.below.trans (hbX.mono (by rw [hsz]; omega)), by rw [hX]; omega, f.a.of_block (hbX.block _ (by omega)), f.b.of_block (hbX.block _ (by omega)), f.r.of_block (hbX.block _ (by omega)), f.n.of_block (hbX.block _ (by omega)), hc0, hs0⟩
    have G0 := Lib.hid F0
    have a3' : (((w1.alloc (.cells #[.int .i64 n0, .int .i64 n1, .int .i64 n2, .slice (some ⟨(w.heap.size + 1 + 1 + 1 + 1 + 1), 0, none⟩) L L] 26)).alloc (.cells (madeCells #[.int .i64 0] L) 3)).drew).cell? ⟨w.heap.size, 3, none⟩ = some (.slice (some ⟨ba, oa, none⟩) L ca) := F0.a.cell (i := 3) (by decide)
    have hgs : (w.heap.size + 1 + 1 + 1 + 1 + 1) ≤ w.heap.size + 1 + 1 + 1 + 1 + 1 := by omega
    have hgc : (w.heap.size + 1 + 1 + 1 + 1) ≤ w.heap.size + 1 + 1 + 1 + 1 + 1 := by omega
    clear hX hbX hc0 hs0 F0 a0 a1 a2 a3 m0 m1 m2 hmk F1
    simp only [Exit.then]
    go_wp2
    go_loopw [25] (fun x wr => ∃ i : Nat, i ≤ L ∧ x = .int .i64 i ∧ RF w n0 n1 n2 L ba oa ca bb ob cb (w.heap.size + 1 + 1 + 1 + 1 + 1) (w.heap.size + 1 + 1 + 1 + 1) (acc n0 n1 n2 V W i 0) wr) (fun x _ => L - (RowKit.intOf x).toNat)
    case atStart => exact ⟨0, Nat.zero_le _, rfl, G0.out⟩
    case round =>
      obtain ⟨i, hi, rfl, hf⟩ := hrel
      have QF := Lib.hid hf
      clear hf a3' hsz G0
      by_cases hiL : i < L
      · have hf := QF.out
        obtain ⟨v, ev⟩ : ∃ v, v = V i := ⟨_, rfl⟩
        have cv : wr.cell? ⟨ba, oa + i, none⟩ = some (.int .i64 v) := by rw [ev]; exact (hf.below.cell (p := ⟨ba, oa + i, none⟩) hba).trans (HV.out i hiL)
        have hil : (i : Int) < (L : Int) := by omega
        have hsw := hf.size
        have m0 : wr.cell? ⟨w.heap.size + 1 + 1 + 1, 0, none⟩ = some (.int .i64 n0) := hf.n.cell (i := 0) (by decide)
        have m1 : wr.cell? ⟨w.heap.size + 1 + 1 + 1, 1, none⟩ = some (.int .i64 n1) := hf.n.cell (i := 1) (by decide)
        have m2 : wr.cell? ⟨w.heap.size + 1 + 1 + 1, 2, none⟩ = some (.int .i64 n2) := hf.n.cell (i := 2) (by decide)
        have EV := Lib.hid ev; clear ev hf
        by_cases hv : v = 0
        · subst hv
          go_wp2
          go_roundw
          case rel => exact ⟨i + 1, by omega, by go_num, QF.out.congr (fun u _ => (acc_skip n0 n1 n2 V W i u EV.out.symm).symm)⟩
          case measure => simp [RowKit.intOf]; omega
        · have hv' : (v == 0) = false := by rw [beq_eq_false_iff_ne]; exact hv
          have HVJ := Lib.hid (EV.out ▸ HVB.out i hiL)
          go_wp2_with fail
          refine (At_any n0 n1 n2 i _ ⟨HBX.out.h1.1, HBX.out.h1.2.2⟩ ⟨HBX.out.h2.1, HBX.out.h2.2.2⟩ (by omega)).mono ?_
          rintro e w2 ⟨rfl, hb2⟩
          have Q2 := Lib.hid (QF.out.step (B := wr.heap.size) hb2 hsw hgs hgc)
          have h2s := Q2.out.size
          have l1 : w.heap.size + 1 < w2.heap.size := by omega
          have b3 : w2.cell? ⟨w.heap.size + 1, 3, none⟩ = some (.slice (some ⟨bb, ob, none⟩) L cb) := Q2.out.b.cell (i := 3) (by decide)
          clear hb2 QF m0 m1 m2 cv hsw
          obtain ⟨x0, ex0⟩ : ∃ x, x = at0 n1 n2 i := ⟨_, rfl⟩
          obtain ⟨x1, ex1⟩ : ∃ x, x = at1 n1 n2 i := ⟨_, rfl⟩
          obtain ⟨x2, ex2⟩ : ∃ x, x = at2 n2 i := ⟨_, rfl⟩
          rw [← ex0, ← ex1, ← ex2]
          have EX := Lib.hid (And.intro ex0 (And.intro ex1 ex2))
          have XB := Lib.hid (show x0 < n0 ∧ x1 < n1 ∧ x2 < n2 from ⟨ex0 ▸ at0_lt (by rw [← HBX.out.hL]; exact hiL), ex1 ▸ at1_lt HBX.out.h1.1, ex2 ▸ at2_lt HBX.out.h2.1⟩)
          clear ex0 ex1 ex2
          go_wp2
          refine wp_abs (fun X => RF w n0 n1 n2 L ba oa ca bb ob cb (w.heap.size + 1 + 1 + 1 + 1 + 1) (w.heap.size + 1 + 1 + 1 + 1) (acc n0 n1 n2 V W i 0) X ∧ X.rowIs w2.heap.size 23 3 (v3 x0 x1 x2)) ⟨Q2.out.step (B := w2.heap.size) ((by repeat (first | assumption | exact Below.refl _ _ | refine below_drewN ?_ _ | refine Below.drew ?_ | refine Below.alloc ?_ (by first | (simp; done) | (simp; omega) | omega) _ | refine Below.setCell ?_ (by first | (simp; done) | (simp; omega) | omega) _))) h2s hgs hgc, v3_row w2 x0 x1 x2⟩ ?_
          intro w3 hq
          obtain ⟨q1, q2⟩ := hq
          have Q3 := Lib.hid q1; have X3 := Lib.hid q2
          clear q1 q2 Q2 b3 l1
          go_loopw [38] (fun y wr => ∃ j : Nat, j ≤ L ∧ y = .int .i64 j ∧ RF w n0 n1 n2 L ba oa ca bb ob cb (w.heap.size + 1 + 1 + 1 + 1 + 1) (w.heap.size + 1 + 1 + 1 + 1) (acc n0 n1 n2 V W i j) wr ∧ wr.rowIs w2.heap.size 23 3 (v3 x0 x1 x2)) (fun y _ => L - (RowKit.intOf y).toNat)
          case atStart => exact ⟨0, Nat.zero_le _, rfl, Q3.out, X3.out⟩
          case round =>
            obtain ⟨j, hj, rfl, hf, hx⟩ := hrel
            have QF := Lib.hid hf; have QX := Lib.hid hx
            clear hx Q3 X3
            by_cases hjL : j < L
            · obtain ⟨wj, ew⟩ : ∃ v, v = W j := ⟨_, rfl⟩
              have cw : wr.cell? ⟨bb, ob + j, none⟩ = some (.int .i64 wj) := by rw [ew]; exact (hf.below.cell (p := ⟨bb, ob + j, none⟩) hbb).trans (HW.out j hjL)
              have hjl : (j : Int) < (L : Int) := by omega
              have hsw := hf.size
              have m0 : wr.cell? ⟨w.heap.size + 1 + 1 + 1, 0, none⟩ = some (.int .i64 n0) := hf.n.cell (i := 0) (by decide)
              have m1 : wr.cell? ⟨w.heap.size + 1 + 1 + 1, 1, none⟩ = some (.int .i64 n1) := hf.n.cell (i := 1) (by decide)
              have m2 : wr.cell? ⟨w.heap.size + 1 + 1 + 1, 2, none⟩ = some (.int .i64 n2) := hf.n.cell (i := 2) (by decide)
              have EW := Lib.hid ew; clear ew hf
              have HWJ := Lib.hid (EW.out ▸ HWB.out j hjL)
              go_wp2_with fail
              refine (At_any n0 n1 n2 j _ ⟨HBX.out.h1.1, HBX.out.h1.2.2⟩ ⟨HBX.out.h2.1, HBX.out.h2.2.2⟩ (by omega)).mono ?_
              rintro e w4 ⟨rfl, hb4⟩
              have Q4 := Lib.hid (QF.out.step (B := wr.heap.size) hb4 hsw hgs hgc)
              have X4 := Lib.hid (QX.out.of_block (hb4.block _ QX.out.lt))
              have h4s := Q4.out.size
              have hx4 := X4.out.lt
              clear hb4 QF QX m0 m1 m2 cw hsw
              obtain ⟨y0, ey0⟩ : ∃ x, x = at0 n1 n2 j := ⟨_, rfl⟩
              obtain ⟨y1, ey1⟩ : ∃ x, x = at1 n1 n2 j := ⟨_, rfl⟩
              obtain ⟨y2, ey2⟩ : ∃ x, x = at2 n2 j := ⟨_, rfl⟩
              rw [← ey0, ← ey1, ← ey2]
              have EY := Lib.hid (And.intro ey0 (And.intro ey1 ey2))
              have YB := Lib.hid (show y0 < n0 ∧ y1 < n1 ∧ y2 < n2 from ⟨ey0 ▸ at0_lt (by rw [← HBX.out.hL]; exact hjL), ey1 ▸ at1_lt HBX.out.h1.1, ey2 ▸ at2_lt HBX.out.h2.1⟩)
              clear ey0 ey1 ey2
              go_wp2
              refine wp_abs (fun X => RF w n0 n1 n2 L ba oa ca bb ob cb (w.heap.size + 1 + 1 + 1 + 1 + 1) (w.heap.size + 1 + 1 + 1 + 1) (acc n0 n1 n2 V W i j) X ∧ X.rowIs w2.heap.size 23 3 (v3 x0 x1 x2) ∧ X.rowIs w4.heap.size 23 3 (v3 y0 y1 y2)) ⟨Q4.out.step (B := w4.heap.size) ((by repeat (first | assumption | exact Below.refl _ _ | refine below_drewN ?_ _ | refine Below.drew ?_ | refine Below.alloc ?_ (by first | (simp; done) | (simp; omega) | omega) _ | refine Below.setCell ?_ (by first | (simp; done) | (simp; omega) | omega) _))) h4s hgs hgc, X4.out.alloc _, v3_row w4 y0 y1 y2⟩ ?_
              intro w5 hq
              obtain ⟨q1, q2, q3⟩ := hq
              have m0 : w5.cell? ⟨w.heap.size + 1 + 1 + 1, 0, none⟩ = some (.int .i64 n0) := q1.n.cell (i := 0) (by decide)
              have m1 : w5.cell? ⟨w.heap.size + 1 + 1 + 1, 1, none⟩ = some (.int .i64 n1) := q1.n.cell (i := 1) (by decide)
              have m2 : w5.cell? ⟨w.heap.size + 1 + 1 + 1, 2, none⟩ = some (.int .i64 n2) := q1.n.cell (i := 2) (by decide)
              have a0 : w5.cell? ⟨w2.heap.size, 0, none⟩ = some (.int .i64 x0) := q2.cell (i := 0) (by decide)
              have a1 : w5.cell? ⟨w2.heap.size, 1, none⟩ = some (.int .i64 x1) := q2.cell (i := 1) (by decide)
              have a2 : w5.cell? ⟨w2.heap.size, 2, none⟩ = some (.int .i64 x2) := q2.cell (i := 2) (by decide)
              have d0 : w5.cell? ⟨w4.heap.size, 0, none⟩ = some (.int .i64 y0) := q3.cell (i := 0) (by decide)
              have d1 : w5.cell? ⟨w4.heap.size, 1, none⟩ = some (.int .i64 y1) := q3.cell (i := 1) (by decide)
              have d2 : w5.cell? ⟨w4.heap.size, 2, none⟩ = some (.int .i64 y2) := q3.cell (i := 2) (by decide)
              have h5s := q1.size
              have c3 : w5.cell? ⟨(w.heap.size + 1 + 1 + 1 + 1), 3, none⟩ = some (.slice (some ⟨(w.heap.size + 1 + 1 + 1 + 1 + 1), 0, none⟩) L L) := q1.c.cell (i := 3) (by decide)
              have Q5 := Lib.hid q1; have X5 := Lib.hid q2
              have hx5 := q2.lt
              have hy5 := q3.lt
              have l3 : w.heap.size + 1 + 1 + 1 < w5.heap.size := by omega
              have lgc : (w.heap.size + 1 + 1 + 1 + 1) < w5.heap.size := by omega
              have lgs : (w.heap.size + 1 + 1 + 1 + 1 + 1) < w5.heap.size := by omega
              clear q1 q2 q3 Q4 X4
              obtain ⟨u0, eu0⟩ : ∃ u, u = (x0 + y0) % n0 := ⟨_, rfl⟩
              obtain ⟨u1, eu1⟩ : ∃ u, u = (x1 + y1) % n1 := ⟨_, rfl⟩
              obtain ⟨u2, eu2⟩ : ∃ u, u = (x2 + y2) % n2 := ⟨_, rfl⟩
              have h0 := HBX.out.h0; have h1 := HBX.out.h1; have h2 := HBX.out.h2
              have xb := XB.out; have yb := YB.out
              have hu0 : ((x0 : Int) + (y0 : Int)) % (n0 : Int) = (u0 : Int) := by rw [eu0]; rfl
              have hu1 : ((x1 : Int) + (y1 : Int)) % (n1 : Int) = (u1 : Int) := by rw [eu1]; rfl
              have hu2 : ((x2 : Int) + (y2 : Int)) % (n2 : Int) = (u2 : Int) := by rw [eu2]; rfl
              have UB := Lib.hid (show u0 ≤ 192 ∧ u1 ≤ 192 ∧ u2 ≤ 192 from ⟨by rw [eu0]; have := Nat.mod_lt (x0 + y0) h0.1; omega, by rw [eu1]; have := Nat.mod_lt (x1 + y1) h1.1; omega, by rw [eu2]; have := Nat.mod_lt (x2 + y2) h2.1; omega⟩)
              have hk0 : (u0 * n1 + u1) * n2 + u2 = num n0 n1 n2 i j := by
                unfold num enc
                rw [← EX.out.1, ← EX.out.2.1, ← EX.out.2.2, ← EY.out.1, ← EY.out.2.1, ← EY.out.2.2, eu0, eu1, eu2]
              obtain ⟨k, ek⟩ : ∃ k, k = (u0 * n1 + u1) * n2 + u2 := ⟨_, rfl⟩
              have hkL : k < L := by rw [ek, hk0, HBX.out.hL]; exact num_lt h0.1 h1.1 h2.1 _ _
              have HNUM := Lib.hid (fun w' => ek ▸ Number_any n0 n1 n2 u0 u1 u2 w' h1.2.2 h2.2.2 UB.out.1 UB.out.2.1 UB.out.2.2)
              rw [← ek] at hk0
              have HK := Lib.hid hk0
              have i0 : (0 : Int) ≤ x0 + y0 ∧ (x0 : Int) + y0 ≤ 400 := by omega
              have i1 : (0 : Int) ≤ x1 + y1 ∧ (x1 : Int) + y1 ≤ 400 := by omega
              have i2 : (0 : Int) ≤ x2 + y2 ∧ (x2 : Int) + y2 ≤ 400 := by omega
              have w0 : IntKind.i64.wrap ((x0 : Int) + (y0 : Int)) = (x0 : Int) + (y0 : Int) := by rw [IntKind.wrap_i64]; omega
              have w1' : IntKind.i64.wrap ((x1 : Int) + (y1 : Int)) = (x1 : Int) + (y1 : Int) := by rw [IntKind.wrap_i64]; omega
              have w2' : IntKind.i64.wrap ((x2 : Int) + (y2 : Int)) = (x2 : Int) + (y2 : Int) := by rw [IntKind.wrap_i64]; omega
              obtain ⟨i00, i01⟩ := i0; obtain ⟨i10, i11⟩ := i1; obtain ⟨i20, i21⟩ := i2
              have t0 : ((x0 : Int) + (y0 : Int)).tmod (n0 : Int) = (u0 : Int) := by rw [Int.tmod_eq_emod_of_nonneg i00]; exact hu0
              have t1 : ((x1 : Int) + (y1 : Int)).tmod (n1 : Int) = (u1 : Int) := by rw [Int.tmod_eq_emod_of_nonneg i10]; exact hu1
              have t2 : ((x2 : Int) + (y2 : Int)).tmod (n2 : Int) = (u2 : Int) := by rw [Int.tmod_eq_emod_of_nonneg i20]; exact hu2
              have ub := UB.out
              have k0 : IntKind.i64.wrap (u0 : Int) = (u0 : Int) := by rw [IntKind.wrap_i64]; omega
              have k1 : IntKind.i64.wrap (u1 : Int) = (u1 : Int) := by rw [IntKind.wrap_i64]; omega
              have k2 : IntKind.i64.wrap (u2 : Int) = (u2 : Int) := by rw [IntKind.wrap_i64]; omega
              have p0 : (1 : Int) ≤ n0 := by omega
              have p1 : (1 : Int) ≤ n1 := by omega
              have p2 : (1 : Int) ≤ n2 := by omega
              clear ub
              have zn0 : ¬ n0 = 0 := by omega
              have zn1 : ¬ n1 = 0 := by omega
              have zn2 : ¬ n2 = 0 := by omega
              have z0 : ¬ (n0 : Int) = 0 := by omega
              have z1 : ¬ (n1 : Int) = 0 := by omega
              have z2 : ¬ (n2 : Int) = 0 := by omega
              clear ek hk0 eu0 eu1 eu2 h0 h1 h2 xb yb
              go_region_held3 (fun w' => (w'.cell? ⟨w.heap.size + 1 + 1 + 1, 0, none⟩ = some (.int .i64 n0) ∧ w'.cell? ⟨w.heap.size + 1 + 1 + 1, 1, none⟩ = some (.int .i64 n1) ∧ w'.cell? ⟨w.heap.size + 1 + 1 + 1, 2, none⟩ = some (.int .i64 n2)) ∧ (w'.cell? ⟨w2.heap.size, 0, none⟩ = some (.int .i64 x0) ∧ w'.cell? ⟨w2.heap.size, 1, none⟩ = some (.int .i64 x1) ∧ w'.cell? ⟨w2.heap.size, 2, none⟩ = some (.int .i64 x2)) ∧ (w'.cell? ⟨w4.heap.size, 0, none⟩ = some (.int .i64 y0) ∧ w'.cell? ⟨w4.heap.size, 1, none⟩ = some (.int .i64 y1) ∧ w'.cell? ⟨w4.heap.size, 2, none⟩ = some (.int .i64 y2))) ((go_split_ands; (repeat' apply And.intro) <;> (first | assumption | (go_simp; done)))) (fail)
              have Q6 := Lib.hid (Q5.out.step (B := w5.heap.size) (Y := (w5.alloc (.cells #[.int .i64 u0, .int .i64 u1, .int .i64 u2] 23)).drew) ((by repeat (first | assumption | exact Below.refl _ _ | refine below_drewN ?_ _ | refine Below.drew ?_ | refine Below.alloc ?_ (by first | (simp; done) | (simp; omega) | omega) _ | refine Below.setCell ?_ (by first | (simp; done) | (simp; omega) | omega) _))) h5s hgs hgc)
              have X6 := Lib.hid ((X5.out.alloc (.cells #[.int .i64 u0, .int .i64 u1, .int .i64 u2] 23)).drew)
              have U6 := Lib.hid ((v3_row w5 u0 u1 u2).drew)
              clear m0 m1 m2 a0 a1 a2 d0 d1 d2 c3 Q5 X5 l3 lgc lgs hx5 hy5 hu0 hu1 hu2 w0 w1' w2' t0 t1 t2 k0 k1 k2 zn0 zn1 zn2 z0 z1 z2 i00 i01 i10 i11 i20 i21
              simp only [Exit.then]
              go_wp2
              refine wp_abs (fun X => RF w n0 n1 n2 L ba oa ca bb ob cb (w.heap.size + 1 + 1 + 1 + 1 + 1) (w.heap.size + 1 + 1 + 1 + 1) (acc n0 n1 n2 V W i j) X ∧ X.rowIs w2.heap.size 23 3 (v3 x0 x1 x2) ∧ X.rowIs w5.heap.size 23 3 (v3 u0 u1 u2)) ⟨Q6.out, X6.out, U6.out⟩ ?_
              intro w6 hq
              obtain ⟨q1, q2, q3⟩ := hq
              have m0 : w6.cell? ⟨w.heap.size + 1 + 1 + 1, 0, none⟩ = some (.int .i64 n0) := q1.n.cell (i := 0) (by decide)
              have m1 : w6.cell? ⟨w.heap.size + 1 + 1 + 1, 1, none⟩ = some (.int .i64 n1) := q1.n.cell (i := 1) (by decide)
              have m2 : w6.cell? ⟨w.heap.size + 1 + 1 + 1, 2, none⟩ = some (.int .i64 n2) := q1.n.cell (i := 2) (by decide)
              have d0 : w6.cell? ⟨w5.heap.size, 0, none⟩ = some (.int .i64 u0) := q3.cell (i := 0) (by decide)
              have d1 : w6.cell? ⟨w5.heap.size, 1, none⟩ = some (.int .i64 u1) := q3.cell (i := 1) (by decide)
              have d2 : w6.cell? ⟨w5.heap.size, 2, none⟩ = some (.int .i64 u2) := q3.cell (i := 2) (by decide)
              have h6s := q1.size
              have c3 : w6.cell? ⟨(w.heap.size + 1 + 1 + 1 + 1), 3, none⟩ = some (.slice (some ⟨(w.heap.size + 1 + 1 + 1 + 1 + 1), 0, none⟩) L L) := q1.c.cell (i := 3) (by decide)
              obtain ⟨sk, esk⟩ : ∃ s, s = acc n0 n1 n2 V W i j k := ⟨_, rfl⟩
              have cs : w6.cell? ⟨(w.heap.size + 1 + 1 + 1 + 1 + 1), k, none⟩ = some (.int .i64 sk) := by rw [esk]; exact q1.s.cell hkL
              have hfr : w6.frozen? ⟨(w.heap.size + 1 + 1 + 1 + 1 + 1), k, none⟩ = false := q1.s.frozen k
              have Q7 := Lib.hid q1; have X7 := Lib.hid q2
              have hx6 := q2.lt
              have hy6 := q3.lt
              have l3 : w.heap.size + 1 + 1 + 1 < w6.heap.size := by omega
              have lgc : (w.heap.size + 1 + 1 + 1 + 1) < w6.heap.size := by omega
              have lgs : (w.heap.size + 1 + 1 + 1 + 1 + 1) < w6.heap.size := by omega
              have hkl : (k : Int) < (L : Int) := by omega
              have hab := acc_bound HBX.out.h0.1 HBX.out.h1.1 HBX.out.h2.1 (V := V) (W := W) (by rw [← HBX.out.hL]; exact HVB.out) (by rw [← HBX.out.hL]; exact HWB.out) (i := i) (by rw [← HBX.out.hL]; exact hiL) (by rw [← HBX.out.hL]; exact HBX.out.hb) j k
              rw [← esk] at hab
              have hpb := prod_bd HVJ.out HWJ.out
              obtain ⟨pr, epr⟩ : ∃ s, s = v * wj := ⟨_, rfl⟩
              rw [← epr] at hpb
              have hw1 : IntKind.i64.wrap (v * wj) = pr := by rw [← epr, IntKind.wrap_i64]; omega
              have hw2 : IntKind.i64.wrap (sk + pr) = sk + pr := by rw [IntKind.wrap_i64]; omega
              have ESK := Lib.hid esk; have EPR := Lib.hid epr
              clear q1 q2 q3 Q6 X6 U6 esk epr hab hpb
              refine region_head 12 (by kernel_rfl) (by kernel_rfl) ?_
              simp only [List.take_succ_cons, List.take_zero, List.drop_succ_cons, List.drop_zero]
              repeat (go_big_quiet_step ((go_at_call 21; exact held_of _ (Nat.le_refl _) (HNUM.out _))))
              refine wpQuiet_nil ?_
              rintro w7 ⟨⟨w0, hb⟩, rfl⟩
              have Q8 := Lib.hid (Q7.out.step (B := w6.heap.size) hb h6s hgs hgc)
              have X8 := Lib.hid (X7.out.of_block (hb.block _ hx6))
              have q8 := Q8.out.s
              have hfr8 : w7.frozen? ⟨(w.heap.size + 1 + 1 + 1 + 1 + 1), k, none⟩ = false := q8.frozen k
              have cs8 : w7.cell? ⟨(w.heap.size + 1 + 1 + 1 + 1 + 1), k, none⟩ = some (.int .i64 sk) := by rw [ESK.out]; exact q8.cell hkL
              clear hb q8 m0 m1 m2 d0 d1 d2 c3 cs hfr l3 lgc lgs Q7 X7
              go_wp2
              go_roundw
              case rel =>
                refine ⟨j + 1, by omega, by go_num, Q8.out.put k _ (by omega) (by omega) (fun u hu => ?_), X8.out.setOther (by simp; omega) _⟩
                rw [acc_step HBX.out.h1.1 HBX.out.h2.1 V W (by rw [← HBX.out.hL]; exact hiL) (by rw [← HBX.out.hL]; exact hjL) (by rw [← HBX.out.hL]; exact hu), ← HK.out]
                by_cases e : u = k
                · rw [if_pos e, if_pos e, e, ← ESK.out, ← EV.out, ← EW.out, ← EPR.out]
                · rw [if_neg e, if_neg e, Int.add_zero]
              case measure => simp [RowKit.intOf]; omega
            · have hj' : j = L := by omega
              have QR := Lib.hid (QF.out.congr (g := acc n0 n1 n2 V W (i + 1) 0) (fun u _ => by rw [hj', acc_row HBX.out.h0.1 HBX.out.h1.1 HBX.out.h2.1, HBX.out.hL]))
              clear hj' hf QF QX
              go_wp2
              go_roundw
              case rel => exact ⟨i + 1, by omega, by go_num, QR.out⟩
              case measure => simp [RowKit.intOf]; omega
      · have hi' : i = L := by omega
        have hf := QF.out
        have c0 : wr.cell? ⟨(w.heap.size + 1 + 1 + 1 + 1), 0, none⟩ = some (.int .i64 n0) := hf.c.cell (i := 0) (by decide)
        have c1 : wr.cell? ⟨(w.heap.size + 1 + 1 + 1 + 1), 1, none⟩ = some (.int .i64 n1) := hf.c.cell (i := 1) (by decide)
        have c2 : wr.cell? ⟨(w.heap.size + 1 + 1 + 1 + 1), 2, none⟩ = some (.int .i64 n2) := hf.c.cell (i := 2) (by decide)
        have c3 : wr.cell? ⟨(w.heap.size + 1 + 1 + 1 + 1), 3, none⟩ = some (.slice (some ⟨(w.heap.size + 1 + 1 + 1 + 1 + 1), 0, none⟩) L L) := hf.c.cell (i := 3) (by decide)
        have r0 : wr.cell? ⟨w.heap.size + 1 + 1, 0, none⟩ = some (.int .i64 ((0 : Nat) : Int)) := hf.r.cell (i := 0) (by decide)
        have r1 : wr.cell? ⟨w.heap.size + 1 + 1, 1, none⟩ = some (.int .i64 ((0 : Nat) : Int)) := hf.r.cell (i := 1) (by decide)
        have r2 : wr.cell? ⟨w.heap.size + 1 + 1, 2, none⟩ = some (.int .i64 ((0 : Nat) : Int)) := hf.r.cell (i := 2) (by decide)
        have r3 : wr.cell? ⟨w.heap.size + 1 + 1, 3, none⟩ = some (.slice none 0 0) := hf.r.cell (i := 3) (by decide)
        have rf : ∀ o, wr.frozen? ⟨w.heap.size + 1 + 1, o, none⟩ = false := fun o => hf.r.frozen o
        have HFIN := Lib.hid (show wr.rowIs (w.heap.size + 1 + 1 + 1 + 1 + 1) 3 L (fun u => .int .i64 (foldZ n0 n1 n2 V W u)) from hf.s.congr (fun u _ => by rw [hi', HBX.out.hL, acc_end HBX.out.h1.1 HBX.out.h2.1]))
        clear hf hi'
        go_wp2
        refine bodyPost_ret (v := .agg #[.int .i64 n0, .int .i64 n1, .int .i64 n2, .slice (some ⟨(w.heap.size + 1 + 1 + 1 + 1 + 1), 0, none⟩) L L]) (by simp [results, Try.results43, go_sem, *]) rfl ⟨⟨(w.heap.size + 1 + 1 + 1 + 1 + 1), rfl, by omega, ?_⟩, ?_⟩
        · exact (((HFIN.out.setOther (by first | (simp; done) | (simp; omega)) _).setOther (by first | (simp; done) | (simp; omega)) _).setOther (by first | (simp; done) | (simp; omega)) _).setOther (by first | (simp; done) | (simp; omega)) _
        · exact (((QF.out.below.setCell (by simp; omega) _).setCell (by simp; omega) _).setCell (by simp; omega) _).setCell (by simp; omega) _

end Go.Proofs.Ytjmhnmlmnlefaaa
