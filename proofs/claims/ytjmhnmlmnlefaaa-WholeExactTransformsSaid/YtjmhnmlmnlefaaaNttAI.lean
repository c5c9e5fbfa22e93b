/-
  The law NttFolds.
-/
import Derived.Test.YtjmhnmlmnlefaaaNttAH
namespace Go.Proofs.Ytjmhnmlmnlefaaa
open Go.RowKit Go.Lib
attribute [local irreducible] World.setCell
set_option linter.unusedSimpArgs false
set_option linter.unusedVariables false


structure FA (w : World) (n0 n1 n2 m0 m1 m2 : Int) (sa sb : Value) (X : World) : Prop where
  below : Below w.heap.size w X
  size : w.heap.size + 1 < X.heap.size
  a0 : X.cell? ⟨w.heap.size, 0, none⟩ = some (.int .i64 n0)
  a1 : X.cell? ⟨w.heap.size, 1, none⟩ = some (.int .i64 n1)
  a2 : X.cell? ⟨w.heap.size, 2, none⟩ = some (.int .i64 n2)
  a3 : X.cell? ⟨w.heap.size, 3, none⟩ = some sa
  b0 : X.cell? ⟨w.heap.size + 1, 0, none⟩ = some (.int .i64 m0)
  b1 : X.cell? ⟨w.heap.size + 1, 1, none⟩ = some (.int .i64 m1)
  b2 : X.cell? ⟨w.heap.size + 1, 2, none⟩ = some (.int .i64 m2)
  b3 : X.cell? ⟨w.heap.size + 1, 3, none⟩ = some sb
theorem FA.step {w : World} {n0 n1 n2 m0 m1 m2 : Int} {sa sb : Value} {X Y : World} {B : Nat} (h : FA w n0 n1 n2 m0 m1 m2 sa sb X) (hb : Below B X Y) (hB : w.heap.size + 1 < B) : FA w n0 n1 n2 m0 m1 m2 sa sb Y :=
  ⟨h.below.trans (hb.mono (by omega)), Nat.lt_of_lt_of_le h.size hb.size, (hb.cell (p := ⟨w.heap.size, 0, none⟩) (by simp; omega)).trans h.a0, (hb.cell (p := ⟨w.heap.size, 1, none⟩) (by simp; omega)).trans h.a1, (hb.cell (p := ⟨w.heap.size, 2, none⟩) (by simp; omega)).trans h.a2, (hb.cell (p := ⟨w.heap.size, 3, none⟩) (by simp; omega)).trans h.a3, (hb.cell (p := ⟨w.heap.size + 1, 0, none⟩) (by simp; omega)).trans h.b0, (hb.cell (p := ⟨w.heap.size + 1, 1, none⟩) (by simp; omega)).trans h.b1, (hb.cell (p := ⟨w.heap.size + 1, 2, none⟩) (by simp; omega)).trans h.b2, (hb.cell (p := ⟨w.heap.size + 1, 3, none⟩) (by simp; omega)).trans h.b3⟩
set_option maxHeartbeats 4000000 in
theorem folds_any {n0 n1 n2 m0 m1 m2 : Int} {sa sb : Value} {la lb : Nat} {V W : Nat → Int} {w : World} (hA : Rd w sa la (fun i => .int .i64 (V i))) (hB : Rd w sb lb (fun i => .int .i64 (W i))) (hla : la ≤ 17592186044416) (hlb : lb ≤ 17592186044416) :
    Calls Try.prog 3 #[.agg #[.int .i64 n0, .int .i64 n1, .int .i64 n2, sa], .agg #[.int .i64 m0, .int .i64 m1, .int .i64 m2, sb]] w fun e w' => e = .returned (.bool true) ∧ Below w.heap.size w w' := by
  obtain ⟨p0, p1, p2, f, K, Z, hK, hF, hD⟩ := fold_both (n0 := n0) (n1 := n1) (n2 := n2) (m0 := m0) (m1 := m1) (m2 := m2) hA hB hla hlb
  obtain ⟨ba, hfa⟩ := few_any n0 n1 n2 hA hla
  obtain ⟨bb, hfb⟩ := few_any m0 m1 m2 hB hlb
  have HF := Lib.hid hF; have HD := Lib.hid hD; have FWA := Lib.hid hfa; have FWB := Lib.hid hfb; have HK := Lib.hid hK
  clear hF hD hfa hfb hA hB hla hlb hK
  go_enter Try.func3, Try.ntmps3
  go_wp2_with fail
  refine (awake_any _).mono ?_
  rintro e W1 ⟨rfl, hb1⟩
  have F0 : FA w n0 n1 n2 m0 m1 m2 sa sb ((w.alloc (.cells #[.int .i64 n0, .int .i64 n1, .int .i64 n2, sa] 26)).alloc (.cells #[.int .i64 m0, .int .i64 m1, .int .i64 m2, sb] 26)) := ⟨((Below.refl _ _).alloc (Nat.le_refl _) _).alloc (by simp) _, by simp, by go_simp, by go_simp, by go_simp, by go_simp, by go_simp, by go_simp, by go_simp, by go_simp⟩
  have F1 := Lib.hid (F0.step (B := w.heap.size + 1 + 1) (hb1.mono (by simp)) (by omega))
  clear F0
  clear hb1
  obtain ⟨hB1, hs1, a0, a1, a2, a3, b0, b1, b2, b3⟩ := F1.out
  clear hB1
  go_wp2_with fail
  refine (FWA.out _ F1.out.below).mono ?_
  rintro e W2 ⟨rfl, hb2⟩
  have F2 := Lib.hid (F1.out.step hb2 hs1)
  clear hb2 F1 hs1 a0 a1 a2 a3 b0 b1 b2 b3 FWA
  obtain ⟨hB1, hs1, a0, a1, a2, a3, b0, b1, b2, b3⟩ := F2.out
  clear hB1
  cases ba
  · go_wp2
    go_ret
    exact ⟨rfl, F2.out.below⟩
  go_wp2_with fail
  refine (FWB.out _ F2.out.below).mono ?_
  rintro e W3 ⟨rfl, hb2⟩
  have F3 := Lib.hid (F2.out.step hb2 hs1)
  clear hb2 F2 hs1 a0 a1 a2 a3 b0 b1 b2 b3 FWB
  obtain ⟨hB1, hs1, a0, a1, a2, a3, b0, b1, b2, b3⟩ := F3.out
  clear hB1
  cases bb
  · go_wp2
    go_ret
    exact ⟨rfl, F3.out.below⟩
  go_wp2_with fail
  refine (HF.out _ F3.out.below).mono ?_
  rintro e W4 ⟨⟨s1, rfl, hR1⟩, hb2⟩
  have hR1' := hR1
  obtain ⟨x1, k1, rfl, _⟩ := hR1'
  have F4 := Lib.hid (F3.out.step hb2 hs1)
  have R1 := Lib.hid hR1
  clear hb2 F3 hs1 a0 a1 a2 a3 b0 b1 b2 b3 HF hR1
  obtain ⟨hB1, hs1, a0, a1, a2, a3, b0, b1, b2, b3⟩ := F4.out
  clear hB1
  have l0 : w.heap.size < W4.heap.size := by omega
  go_wp2_with fail
  refine (HD.out _ (F4.out.below.trans (Below.mono (B := W4.heap.size) ((by repeat (first | assumption | exact Below.refl _ _ | refine below_drewN ?_ _ | refine Below.drew ?_ | refine Below.alloc ?_ (by first | (simp; done) | (simp; omega) | omega) _ | refine Below.setCell ?_ (by first | (simp; done) | (simp; omega) | omega) _))) (by omega)))).mono ?_
  rintro e W5 ⟨⟨s2, rfl, hR2⟩, hb2⟩
  have hR2' := hR2
  obtain ⟨x2, k2, rfl, _⟩ := hR2'
  have hb45 : Below W4.heap.size W4 W5 := Below.trans (show Below W4.heap.size W4 (W4.alloc (.cells #[.int .i64 p0, .int .i64 p1, .int .i64 p2, (.slice x1 K k1)] 26)) from (by repeat (first | assumption | exact Below.refl _ _ | refine below_drewN ?_ _ | refine Below.drew ?_ | refine Below.alloc ?_ (by first | (simp; done) | (simp; omega) | omega) _ | refine Below.setCell ?_ (by first | (simp; done) | (simp; omega) | omega) _))) (hb2.mono (by simp))
  have F5 := Lib.hid (F4.out.below.trans (hb45.mono (by omega)))
  have R15 := Lib.hid (R1.out.below hb45)
  have R2 := Lib.hid hR2
  have hl5 : w.heap.size ≤ W5.heap.size := F5.out.size
  have hl45 : W4.heap.size < W5.heap.size := by have := hb2.size; simp at this; omega
  have q0 : W5.cell? ⟨W4.heap.size, 0, none⟩ = some (.int .i64 p0) := (hb2.cell (p := ⟨W4.heap.size, 0, none⟩) (by simp)).trans (by go_simp)
  have q1 : W5.cell? ⟨W4.heap.size, 1, none⟩ = some (.int .i64 p1) := (hb2.cell (p := ⟨W4.heap.size, 1, none⟩) (by simp)).trans (by go_simp)
  have q2 : W5.cell? ⟨W4.heap.size, 2, none⟩ = some (.int .i64 p2) := (hb2.cell (p := ⟨W4.heap.size, 2, none⟩) (by simp)).trans (by go_simp)
  have q3 : W5.cell? ⟨W4.heap.size, 3, none⟩ = some (.slice x1 K k1) := (hb2.cell (p := ⟨W4.heap.size, 3, none⟩) (by simp)).trans (by go_simp)
  clear hb2 hb45 F4 R1 hR2 HD hs1 a0 a1 a2 a3 b0 b1 b2 b3
  go_wp2_with fail
  refine (same_counts (n := K) (V := Z) (R15.out.below ((by repeat (first | assumption | exact Below.refl _ _ | refine below_drewN ?_ _ | refine Below.drew ?_ | refine Below.alloc ?_ (by first | (simp; done) | (simp; omega) | omega) _ | refine Below.setCell ?_ (by first | (simp; done) | (simp; omega) | omega) _)))) (R2.out.below ((by repeat (first | assumption | exact Below.refl _ _ | refine below_drewN ?_ _ | refine Below.drew ?_ | refine Below.alloc ?_ (by first | (simp; done) | (simp; omega) | omega) _ | refine Below.setCell ?_ (by first | (simp; done) | (simp; omega) | omega) _)))) HK.out).mono ?_
  rintro e W6 ⟨rfl, hb2⟩
  go_wp2
  go_ret
  exact ⟨by simp, F5.out.trans ((Below.trans (show Below W5.heap.size W5 (W5.alloc (.cells #[.int .i64 p0, .int .i64 p1, .int .i64 p2, .slice x2 K k2] 26)) from (by repeat (first | assumption | exact Below.refl _ _ | refine below_drewN ?_ _ | refine Below.drew ?_ | refine Below.alloc ?_ (by first | (simp; done) | (simp; omega) | omega) _ | refine Below.setCell ?_ (by first | (simp; done) | (simp; omega) | omega) _))) (hb2.mono (by simp))).mono hl5)⟩

end Go.Proofs.Ytjmhnmlmnlefaaa
