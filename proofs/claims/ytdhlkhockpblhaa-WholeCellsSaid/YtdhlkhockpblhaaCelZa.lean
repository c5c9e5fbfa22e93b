/-
  What the law's main walk asks for: contracts in the law's words.
-/
import Derived.Test.YtdhlkhockpblhaaCelYa
import Derived.Test.YtdhlkhockpblhaaCelW
import Derived.Test.YtdhlkhockpblhaaCelX2
import Derived.Test.YtdhlkhockpblhaaCelX4
import Derived.Test.YtdhlkhockpblhaaCelE
import Derived.Test.YtdhlkhockpblhaaCelX3
import Derived.Test.YtdhlkhockpblhaaRedX
import Derived.Test.YtdhlkhockpblhaaRedTa
import Derived.Test.YtdhlkhockpblhaaCelS6
import Derived.Test.YtdhlkhockpblhaaCelS1
import Derived.Test.YtdhlkhockpblhaaCelS2
import Derived.Test.YtdhlkhockpblhaaCelS3
import Derived.Test.YtdhlkhockpblhaaCelS4
import Derived.Test.YtdhlkhockpblhaaCelS5
import Derived.Test.YtdhlkhockpblhaaRedU
namespace Go.Proofs.Ytdhlkhockpblhaa
open Go.RowKit
attribute [local irreducible] World.setCell

set_option linter.unusedSimpArgs false
set_option linter.unusedVariables false

theorem inv_pq {n : Nat} {P Q : Mt} (h : PQ n P Q) (w : World) : Calls Try.prog 52 #[.agg #[.int .i64 P.p00, .int .i64 P.p01, .int .i64 P.p02, .int .i64 P.p10, .int .i64 P.p11, .int .i64 P.p12, .int .i64 P.p20, .int .i64 P.p21, .int .i64 P.p22]] w fun e w' => e = .returned (.tuple #[.agg #[.int .i64 Q.p00, .int .i64 Q.p01, .int .i64 Q.p02, .int .i64 Q.p10, .int .i64 Q.p11, .int .i64 Q.p12, .int .i64 Q.p20, .int .i64 Q.p21, .int .i64 Q.p22], .int .i64 0]) ∧ Below w.heap.size w w' := by
  have A := M.Inv_ok P.p00 P.p01 P.p02 P.p10 P.p11 P.p12 P.p20 P.p21 P.p22 (wrap64 (M.d9 P.p00 P.p01 P.p02 P.p10 P.p11 P.p12 P.p20 P.p21 P.p22)) w h.mc rfl h.dd
  rw [h.v00, h.v01, h.v02, h.v10, h.v11, h.v12, h.v20, h.v21, h.v22] at A
  exact A
theorem wrap3l (x y z a b c : Int) : wrap64 (wrap64 x * a + wrap64 y * b + wrap64 z * c) = wrap64 (x * a + y * b + z * c) := wrap3 x y z a b c
theorem n_aa (m : Met) (Q : Mt) (hn : -9075 ≤ (gr m Q).aa ∧ (gr m Q).aa ≤ 9075) : wrap64 ((wrap64 (Q.p00 * m.aa + Q.p10 * m.ab + Q.p20 * m.ac)) * Q.p00 + (wrap64 (Q.p00 * m.ab + Q.p10 * m.bb + Q.p20 * m.bc)) * Q.p10 + (wrap64 (Q.p00 * m.ac + Q.p10 * m.bc + Q.p20 * m.cc)) * Q.p20) = (gr m Q).aa := by
  rw [wrap3l]
  have e : (((Q.p00 * m.aa + Q.p10 * m.ab + Q.p20 * m.ac)) * Q.p00 + ((Q.p00 * m.ab + Q.p10 * m.bb + Q.p20 * m.bc)) * Q.p10 + ((Q.p00 * m.ac + Q.p10 * m.bc + Q.p20 * m.cc)) * Q.p20) = (gr m Q).aa := by simp only [gr]; grind
  rw [e, wrapE (by omega) (by omega)]
theorem n_bb (m : Met) (Q : Mt) (hn : -9075 ≤ (gr m Q).bb ∧ (gr m Q).bb ≤ 9075) : wrap64 ((wrap64 (Q.p01 * m.aa + Q.p11 * m.ab + Q.p21 * m.ac)) * Q.p01 + (wrap64 (Q.p01 * m.ab + Q.p11 * m.bb + Q.p21 * m.bc)) * Q.p11 + (wrap64 (Q.p01 * m.ac + Q.p11 * m.bc + Q.p21 * m.cc)) * Q.p21) = (gr m Q).bb := by
  rw [wrap3l]
  have e : (((Q.p01 * m.aa + Q.p11 * m.ab + Q.p21 * m.ac)) * Q.p01 + ((Q.p01 * m.ab + Q.p11 * m.bb + Q.p21 * m.bc)) * Q.p11 + ((Q.p01 * m.ac + Q.p11 * m.bc + Q.p21 * m.cc)) * Q.p21) = (gr m Q).bb := by simp only [gr]; grind
  rw [e, wrapE (by omega) (by omega)]
theorem n_cc (m : Met) (Q : Mt) (hn : -9075 ≤ (gr m Q).cc ∧ (gr m Q).cc ≤ 9075) : wrap64 ((wrap64 (Q.p02 * m.aa + Q.p12 * m.ab + Q.p22 * m.ac)) * Q.p02 + (wrap64 (Q.p02 * m.ab + Q.p12 * m.bb + Q.p22 * m.bc)) * Q.p12 + (wrap64 (Q.p02 * m.ac + Q.p12 * m.bc + Q.p22 * m.cc)) * Q.p22) = (gr m Q).cc := by
  rw [wrap3l]
  have e : (((Q.p02 * m.aa + Q.p12 * m.ab + Q.p22 * m.ac)) * Q.p02 + ((Q.p02 * m.ab + Q.p12 * m.bb + Q.p22 * m.bc)) * Q.p12 + ((Q.p02 * m.ac + Q.p12 * m.bc + Q.p22 * m.cc)) * Q.p22) = (gr m Q).cc := by simp only [gr]; grind
  rw [e, wrapE (by omega) (by omega)]
theorem n_bc (m : Met) (Q : Mt) (hn : -9075 ≤ (gr m Q).bc ∧ (gr m Q).bc ≤ 9075) : wrap64 ((wrap64 (Q.p01 * m.aa + Q.p11 * m.ab + Q.p21 * m.ac)) * Q.p02 + (wrap64 (Q.p01 * m.ab + Q.p11 * m.bb + Q.p21 * m.bc)) * Q.p12 + (wrap64 (Q.p01 * m.ac + Q.p11 * m.bc + Q.p21 * m.cc)) * Q.p22) = (gr m Q).bc := by
  rw [wrap3l]
  have e : (((Q.p01 * m.aa + Q.p11 * m.ab + Q.p21 * m.ac)) * Q.p02 + ((Q.p01 * m.ab + Q.p11 * m.bb + Q.p21 * m.bc)) * Q.p12 + ((Q.p01 * m.ac + Q.p11 * m.bc + Q.p21 * m.cc)) * Q.p22) = (gr m Q).bc := by simp only [gr]; grind
  rw [e, wrapE (by omega) (by omega)]
theorem n_ac (m : Met) (Q : Mt) (hn : -9075 ≤ (gr m Q).ac ∧ (gr m Q).ac ≤ 9075) : wrap64 ((wrap64 (Q.p00 * m.aa + Q.p10 * m.ab + Q.p20 * m.ac)) * Q.p02 + (wrap64 (Q.p00 * m.ab + Q.p10 * m.bb + Q.p20 * m.bc)) * Q.p12 + (wrap64 (Q.p00 * m.ac + Q.p10 * m.bc + Q.p20 * m.cc)) * Q.p22) = (gr m Q).ac := by
  rw [wrap3l]
  have e : (((Q.p00 * m.aa + Q.p10 * m.ab + Q.p20 * m.ac)) * Q.p02 + ((Q.p00 * m.ab + Q.p10 * m.bb + Q.p20 * m.bc)) * Q.p12 + ((Q.p00 * m.ac + Q.p10 * m.bc + Q.p20 * m.cc)) * Q.p22) = (gr m Q).ac := by simp only [gr]; grind
  rw [e, wrapE (by omega) (by omega)]
theorem n_ab (m : Met) (Q : Mt) (hn : -9075 ≤ (gr m Q).ab ∧ (gr m Q).ab ≤ 9075) : wrap64 ((wrap64 (Q.p00 * m.aa + Q.p10 * m.ab + Q.p20 * m.ac)) * Q.p01 + (wrap64 (Q.p00 * m.ab + Q.p10 * m.bb + Q.p20 * m.bc)) * Q.p11 + (wrap64 (Q.p00 * m.ac + Q.p10 * m.bc + Q.p20 * m.cc)) * Q.p21) = (gr m Q).ab := by
  rw [wrap3l]
  have e : (((Q.p00 * m.aa + Q.p10 * m.ab + Q.p20 * m.ac)) * Q.p01 + ((Q.p00 * m.ab + Q.p10 * m.bb + Q.p20 * m.bc)) * Q.p11 + ((Q.p00 * m.ac + Q.p10 * m.bc + Q.p20 * m.cc)) * Q.p21) = (gr m Q).ab := by simp only [gr]; grind
  rw [e, wrapE (by omega) (by omega)]
theorem metric_n {n : Nat} {P Q : Mt} (h : PQ n P Q) (m : Met) (o0 o1 o2 : Int) (w : World) (haa : 1 ≤ m.aa ∧ m.aa ≤ 100000) (hbb : 1 ≤ m.bb ∧ m.bb ≤ 100000) (hcc : 1 ≤ m.cc ∧ m.cc ≤ 100000) (hbc : -100000 ≤ m.bc ∧ m.bc ≤ 100000) (hac : -100000 ≤ m.ac ∧ m.ac ≤ 100000) (hab : -100000 ≤ m.ab ∧ m.ab ≤ 100000) (naa : -9075 ≤ (gr m Q).aa ∧ (gr m Q).aa ≤ 9075) (nbb : -9075 ≤ (gr m Q).bb ∧ (gr m Q).bb ≤ 9075) (ncc : -9075 ≤ (gr m Q).cc ∧ (gr m Q).cc ≤ 9075) (nbc : -9075 ≤ (gr m Q).bc ∧ (gr m Q).bc ≤ 9075) (nac : -9075 ≤ (gr m Q).ac ∧ (gr m Q).ac ≤ 9075) (nab : -9075 ≤ (gr m Q).ab ∧ (gr m Q).ab ≤ 9075) : Calls Try.prog 29 #[.agg #[.int .i64 P.p00, .int .i64 P.p01, .int .i64 P.p02, .int .i64 P.p10, .int .i64 P.p11, .int .i64 P.p12, .int .i64 P.p20, .int .i64 P.p21, .int .i64 P.p22, .int .i64 o0, .int .i64 o1, .int .i64 o2], .agg #[.int .i64 m.aa, .int .i64 m.bb, .int .i64 m.cc, .int .i64 m.bc, .int .i64 m.ac, .int .i64 m.ab]] w fun e w' => e = .returned (.tuple #[.agg #[.int .i64 ((gr m Q).aa), .int .i64 ((gr m Q).bb), .int .i64 ((gr m Q).cc), .int .i64 ((gr m Q).bc), .int .i64 ((gr m Q).ac), .int .i64 ((gr m Q).ab)], .int .i64 0]) ∧ Below w.heap.size w w' := by
  have A := Metric_ok P.p00 P.p01 P.p02 P.p10 P.p11 P.p12 P.p20 P.p21 P.p22 o0 o1 o2 m.aa m.bb m.cc m.bc m.ac m.ab Q.p00 Q.p01 Q.p02 Q.p10 Q.p11 Q.p12 Q.p20 Q.p21 Q.p22 (wrap64 (Q.p00 * m.aa + Q.p10 * m.ab + Q.p20 * m.ac)) (wrap64 (Q.p00 * m.ab + Q.p10 * m.bb + Q.p20 * m.bc)) (wrap64 (Q.p00 * m.ac + Q.p10 * m.bc + Q.p20 * m.cc)) (wrap64 (Q.p01 * m.aa + Q.p11 * m.ab + Q.p21 * m.ac)) (wrap64 (Q.p01 * m.ab + Q.p11 * m.bb + Q.p21 * m.bc)) (wrap64 (Q.p01 * m.ac + Q.p11 * m.bc + Q.p21 * m.cc)) (wrap64 (Q.p02 * m.aa + Q.p12 * m.ab + Q.p22 * m.ac)) (wrap64 (Q.p02 * m.ab + Q.p12 * m.bb + Q.p22 * m.bc)) (wrap64 (Q.p02 * m.ac + Q.p12 * m.bc + Q.p22 * m.cc)) (wrap64 ((wrap64 (Q.p00 * m.aa + Q.p10 * m.ab + Q.p20 * m.ac)) * Q.p00 + (wrap64 (Q.p00 * m.ab + Q.p10 * m.bb + Q.p20 * m.bc)) * Q.p10 + (wrap64 (Q.p00 * m.ac + Q.p10 * m.bc + Q.p20 * m.cc)) * Q.p20)) (wrap64 ((wrap64 (Q.p00 * m.aa + Q.p10 * m.ab + Q.p20 * m.ac)) * Q.p01 + (wrap64 (Q.p00 * m.ab + Q.p10 * m.bb + Q.p20 * m.bc)) * Q.p11 + (wrap64 (Q.p00 * m.ac + Q.p10 * m.bc + Q.p20 * m.cc)) * Q.p21)) (wrap64 ((wrap64 (Q.p00 * m.aa + Q.p10 * m.ab + Q.p20 * m.ac)) * Q.p02 + (wrap64 (Q.p00 * m.ab + Q.p10 * m.bb + Q.p20 * m.bc)) * Q.p12 + (wrap64 (Q.p00 * m.ac + Q.p10 * m.bc + Q.p20 * m.cc)) * Q.p22)) (wrap64 ((wrap64 (Q.p01 * m.aa + Q.p11 * m.ab + Q.p21 * m.ac)) * Q.p00 + (wrap64 (Q.p01 * m.ab + Q.p11 * m.bb + Q.p21 * m.bc)) * Q.p10 + (wrap64 (Q.p01 * m.ac + Q.p11 * m.bc + Q.p21 * m.cc)) * Q.p20)) (wrap64 ((wrap64 (Q.p01 * m.aa + Q.p11 * m.ab + Q.p21 * m.ac)) * Q.p01 + (wrap64 (Q.p01 * m.ab + Q.p11 * m.bb + Q.p21 * m.bc)) * Q.p11 + (wrap64 (Q.p01 * m.ac + Q.p11 * m.bc + Q.p21 * m.cc)) * Q.p21)) (wrap64 ((wrap64 (Q.p01 * m.aa + Q.p11 * m.ab + Q.p21 * m.ac)) * Q.p02 + (wrap64 (Q.p01 * m.ab + Q.p11 * m.bb + Q.p21 * m.bc)) * Q.p12 + (wrap64 (Q.p01 * m.ac + Q.p11 * m.bc + Q.p21 * m.cc)) * Q.p22)) (wrap64 ((wrap64 (Q.p02 * m.aa + Q.p12 * m.ab + Q.p22 * m.ac)) * Q.p00 + (wrap64 (Q.p02 * m.ab + Q.p12 * m.bb + Q.p22 * m.bc)) * Q.p10 + (wrap64 (Q.p02 * m.ac + Q.p12 * m.bc + Q.p22 * m.cc)) * Q.p20)) (wrap64 ((wrap64 (Q.p02 * m.aa + Q.p12 * m.ab + Q.p22 * m.ac)) * Q.p01 + (wrap64 (Q.p02 * m.ab + Q.p12 * m.bb + Q.p22 * m.bc)) * Q.p11 + (wrap64 (Q.p02 * m.ac + Q.p12 * m.bc + Q.p22 * m.cc)) * Q.p21)) (wrap64 ((wrap64 (Q.p02 * m.aa + Q.p12 * m.ab + Q.p22 * m.ac)) * Q.p02 + (wrap64 (Q.p02 * m.ab + Q.p12 * m.bb + Q.p22 * m.bc)) * Q.p12 + (wrap64 (Q.p02 * m.ac + Q.p12 * m.bc + Q.p22 * m.cc)) * Q.p22)) w (inv_pq h) haa hbb hcc hbc hac hab (bproduct_any Q.p00 Q.p10 Q.p20 Q.p01 Q.p11 Q.p21 Q.p02 Q.p12 Q.p22 m.aa m.ab m.ac m.ab m.bb m.bc m.ac m.bc m.cc) (bproduct_any (wrap64 (Q.p00 * m.aa + Q.p10 * m.ab + Q.p20 * m.ac)) (wrap64 (Q.p00 * m.ab + Q.p10 * m.bb + Q.p20 * m.bc)) (wrap64 (Q.p00 * m.ac + Q.p10 * m.bc + Q.p20 * m.cc)) (wrap64 (Q.p01 * m.aa + Q.p11 * m.ab + Q.p21 * m.ac)) (wrap64 (Q.p01 * m.ab + Q.p11 * m.bb + Q.p21 * m.bc)) (wrap64 (Q.p01 * m.ac + Q.p11 * m.bc + Q.p21 * m.cc)) (wrap64 (Q.p02 * m.aa + Q.p12 * m.ab + Q.p22 * m.ac)) (wrap64 (Q.p02 * m.ab + Q.p12 * m.bb + Q.p22 * m.bc)) (wrap64 (Q.p02 * m.ac + Q.p12 * m.bc + Q.p22 * m.cc)) Q.p00 Q.p01 Q.p02 Q.p10 Q.p11 Q.p12 Q.p20 Q.p21 Q.p22)
  rw [n_aa m Q naa, n_bb m Q nbb, n_cc m Q ncc, n_bc m Q nbc, n_ac m Q nac, n_ab m Q nab] at A
  exact A
end Go.Proofs.Ytdhlkhockpblhaa
namespace Go.Proofs.Ytdhlkhockpblhaa
open Go.RowKit
attribute [local irreducible] World.setCell

set_option linter.unusedSimpArgs false
set_option linter.unusedVariables false

theorem dot_v (m : Met) (hc : chk m = 0) (u0 u1 u2 v0 v1 v2 : Int) (w : World) (bu0 : -1000 ≤ u0 ∧ u0 ≤ 1000) (bu1 : -1000 ≤ u1 ∧ u1 ≤ 1000) (bu2 : -1000 ≤ u2 ∧ u2 ≤ 1000) (bv0 : -1000 ≤ v0 ∧ v0 ≤ 1000) (bv1 : -1000 ≤ v1 ∧ v1 ≤ 1000) (bv2 : -1000 ≤ v2 ∧ v2 ≤ 1000) : Calls Try.prog 31 #[.agg #[.int .i64 m.aa, .int .i64 m.bb, .int .i64 m.cc, .int .i64 m.bc, .int .i64 m.ac, .int .i64 m.ab], .agg #[.int .i64 u0, .int .i64 u1, .int .i64 u2], .agg #[.int .i64 v0, .int .i64 v1, .int .i64 v2]] w fun e w' => e = .returned (.tuple #[.int .i64 (wrap64 (bil m u0 u1 u2 v0 v1 v2)), .int .i64 0]) ∧ Below w.heap.size w w' := Dot_ok m.aa m.bb m.cc m.bc m.ac m.ab u0 u1 u2 v0 v1 v2 w hc bu0 bu1 bu2 bv0 bv1 bv2
theorem na1 {a b : Int} (c : Nat) (h : -(c : Int) ≤ b ∧ b ≤ c) : (a * b).natAbs ≤ a.natAbs * c := by rw [Int.natAbs_mul]; exact Nat.mul_le_mul (Nat.le_refl _) (by omega)
theorem row3 {a b c x y z : Int} (s : a.natAbs + b.natAbs + c.natAbs ≤ 3) (hx : -128 ≤ x ∧ x ≤ 128) (hy : -128 ≤ y ∧ y ≤ 128) (hz : -128 ≤ z ∧ z ≤ 128) : -384 ≤ a * x + b * y + c * z ∧ a * x + b * y + c * z ≤ 384 := by
  have e0 := na1 (a := a) 128 hx; have e1 := na1 (a := b) 128 hy; have e2 := na1 (a := c) 128 hz
  omega
theorem col5 {a b c x y z : Int} (s : x.natAbs + y.natAbs + z.natAbs ≤ 5) (ha : -5 ≤ a ∧ a ≤ 5) (hb : -5 ≤ b ∧ b ≤ 5) (hc : -5 ≤ c ∧ c ≤ 5) : -25 ≤ a * x + b * y + c * z ∧ a * x + b * y + c * z ≤ 25 := by
  have e0 := na1 (a := x) 5 ha; have e1 := na1 (a := y) 5 hb; have e2 := na1 (a := z) 5 hc
  rw [Int.mul_comm] at e0 e1 e2
  omega
theorem apply_v {n : Nat} {P Q : Mt} (h : PQ n P Q) (x0 x1 x2 : Int) (w : World) (bx0 : -128 ≤ x0 ∧ x0 ≤ 128) (bx1 : -128 ≤ x1 ∧ x1 ≤ 128) (bx2 : -128 ≤ x2 ∧ x2 ≤ 128) : Calls Try.prog 30 #[.agg #[.int .i64 P.p00, .int .i64 P.p01, .int .i64 P.p02, .int .i64 P.p10, .int .i64 P.p11, .int .i64 P.p12, .int .i64 P.p20, .int .i64 P.p21, .int .i64 P.p22], .agg #[.int .i64 x0, .int .i64 x1, .int .i64 x2]] w fun e w' => e = .returned (.tuple #[.agg #[.int .i64 ((P.p00 * x0 + P.p01 * x1 + P.p02 * x2)), .int .i64 ((P.p10 * x0 + P.p11 * x1 + P.p12 * x2)), .int .i64 ((P.p20 * x0 + P.p21 * x1 + P.p22 * x2))], .int .i64 0]) ∧ Below w.heap.size w w' := by
  have A := M.Apply_ok P.p00 P.p01 P.p02 P.p10 P.p11 P.p12 P.p20 P.p21 P.p22 x0 x1 x2 w h.mc (by omega) (by omega) (by omega)
  rw [show wrap64 (P.p00 * x0 + P.p01 * x1 + P.p02 * x2) = (P.p00 * x0 + P.p01 * x1 + P.p02 * x2) from by have := row3 h.r0 bx0 bx1 bx2; exact wrapE (by omega) (by omega), show wrap64 (P.p10 * x0 + P.p11 * x1 + P.p12 * x2) = (P.p10 * x0 + P.p11 * x1 + P.p12 * x2) from by have := row3 h.r1 bx0 bx1 bx2; exact wrapE (by omega) (by omega), show wrap64 (P.p20 * x0 + P.p21 * x1 + P.p22 * x2) = (P.p20 * x0 + P.p21 * x1 + P.p22 * x2) from by have := row3 h.r2 bx0 bx1 bx2; exact wrapE (by omega) (by omega)] at A
  exact A
theorem index_v {n : Nat} {P Q : Mt} (h : PQ n P Q) (o0 o1 o2 : Int) (k0 k1 k2 : Int) (w : World) (bk0 : -5 ≤ k0 ∧ k0 ≤ 5) (bk1 : -5 ≤ k1 ∧ k1 ≤ 5) (bk2 : -5 ≤ k2 ∧ k2 ≤ 5) : Calls Try.prog 32 #[.agg #[.int .i64 P.p00, .int .i64 P.p01, .int .i64 P.p02, .int .i64 P.p10, .int .i64 P.p11, .int .i64 P.p12, .int .i64 P.p20, .int .i64 P.p21, .int .i64 P.p22, .int .i64 o0, .int .i64 o1, .int .i64 o2], .agg #[.int .i64 k0, .int .i64 k1, .int .i64 k2]] w fun e w' => e = .returned (.tuple #[.agg #[.int .i64 ((k0 * Q.p00 + k1 * Q.p10 + k2 * Q.p20)), .int .i64 ((k0 * Q.p01 + k1 * Q.p11 + k2 * Q.p21)), .int .i64 ((k0 * Q.p02 + k1 * Q.p12 + k2 * Q.p22))], .int .i64 0]) ∧ Below w.heap.size w w' := by
  have A := Index_ok P.p00 P.p01 P.p02 P.p10 P.p11 P.p12 P.p20 P.p21 P.p22 o0 o1 o2 k0 k1 k2 Q.p00 Q.p01 Q.p02 Q.p10 Q.p11 Q.p12 Q.p20 Q.p21 Q.p22 w (inv_pq h) (by omega) (by omega) (by omega)
  rw [show wrap64 (k0 * Q.p00 + k1 * Q.p10 + k2 * Q.p20) = (k0 * Q.p00 + k1 * Q.p10 + k2 * Q.p20) from by have := col5 h.s0 bk0 bk1 bk2; exact wrapE (by omega) (by omega), show wrap64 (k0 * Q.p01 + k1 * Q.p11 + k2 * Q.p21) = (k0 * Q.p01 + k1 * Q.p11 + k2 * Q.p21) from by have := col5 h.s1 bk0 bk1 bk2; exact wrapE (by omega) (by omega), show wrap64 (k0 * Q.p02 + k1 * Q.p12 + k2 * Q.p22) = (k0 * Q.p02 + k1 * Q.p12 + k2 * Q.p22) from by have := col5 h.s2 bk0 bk1 bk2; exact wrapE (by omega) (by omega)] at A
  exact A
theorem crs {a b c d : Int} (ha : -55 ≤ a ∧ a ≤ 55) (hb : -55 ≤ b ∧ b ≤ 55) (hc : -55 ≤ c ∧ c ≤ 55) (hd : -55 ≤ d ∧ d ≤ 55) : -6050 ≤ a * b - c * d ∧ a * b - c * d ≤ 6050 := by
  have e1 := mulb 55 55 ha hb; have e2 := mulb 55 55 hc hd
  omega
theorem nH0_b {t0 t1 t2 t3 t4 t5 t6 t7 t8 k0 k1 k2 : Int} (hb : (-55 ≤ t0 ∧ t0 ≤ 55) ∧ (-55 ≤ t1 ∧ t1 ≤ 55) ∧ (-55 ≤ t2 ∧ t2 ≤ 55) ∧ (-55 ≤ t3 ∧ t3 ≤ 55) ∧ (-55 ≤ t4 ∧ t4 ≤ 55) ∧ (-55 ≤ t5 ∧ t5 ≤ 55) ∧ (-55 ≤ t6 ∧ t6 ≤ 55) ∧ (-55 ≤ t7 ∧ t7 ≤ 55) ∧ (-55 ≤ t8 ∧ t8 ≤ 55)) (bk0 : -25 ≤ k0 ∧ k0 ≤ 25) (bk1 : -25 ≤ k1 ∧ k1 ≤ 25) (bk2 : -25 ≤ k2 ∧ k2 ≤ 25) : -453750 ≤ nH0 t0 t1 t2 t3 t4 t5 t6 t7 t8 k0 k1 k2 ∧ nH0 t0 t1 t2 t3 t4 t5 t6 t7 t8 k0 k1 k2 ≤ 453750 := by
  obtain ⟨b0, b1, b2, b3, b4, b5, b6, b7, b8⟩ := hb
  have e0 := mulb 25 6050 bk0 (crs b4 b8 b7 b5); have e1 := mulb 25 6050 bk1 (crs b5 b6 b8 b3); have e2 := mulb 25 6050 bk2 (crs b3 b7 b6 b4)
  unfold nH0
  omega
theorem nH1_b {t0 t1 t2 t3 t4 t5 t6 t7 t8 k0 k1 k2 : Int} (hb : (-55 ≤ t0 ∧ t0 ≤ 55) ∧ (-55 ≤ t1 ∧ t1 ≤ 55) ∧ (-55 ≤ t2 ∧ t2 ≤ 55) ∧ (-55 ≤ t3 ∧ t3 ≤ 55) ∧ (-55 ≤ t4 ∧ t4 ≤ 55) ∧ (-55 ≤ t5 ∧ t5 ≤ 55) ∧ (-55 ≤ t6 ∧ t6 ≤ 55) ∧ (-55 ≤ t7 ∧ t7 ≤ 55) ∧ (-55 ≤ t8 ∧ t8 ≤ 55)) (bk0 : -25 ≤ k0 ∧ k0 ≤ 25) (bk1 : -25 ≤ k1 ∧ k1 ≤ 25) (bk2 : -25 ≤ k2 ∧ k2 ≤ 25) : -453750 ≤ nH1 t0 t1 t2 t3 t4 t5 t6 t7 t8 k0 k1 k2 ∧ nH1 t0 t1 t2 t3 t4 t5 t6 t7 t8 k0 k1 k2 ≤ 453750 := by
  obtain ⟨b0, b1, b2, b3, b4, b5, b6, b7, b8⟩ := hb
  have e0 := mulb 25 6050 bk0 (crs b7 b2 b1 b8); have e1 := mulb 25 6050 bk1 (crs b8 b0 b2 b6); have e2 := mulb 25 6050 bk2 (crs b6 b1 b0 b7)
  unfold nH1
  omega
theorem nH2_b {t0 t1 t2 t3 t4 t5 t6 t7 t8 k0 k1 k2 : Int} (hb : (-55 ≤ t0 ∧ t0 ≤ 55) ∧ (-55 ≤ t1 ∧ t1 ≤ 55) ∧ (-55 ≤ t2 ∧ t2 ≤ 55) ∧ (-55 ≤ t3 ∧ t3 ≤ 55) ∧ (-55 ≤ t4 ∧ t4 ≤ 55) ∧ (-55 ≤ t5 ∧ t5 ≤ 55) ∧ (-55 ≤ t6 ∧ t6 ≤ 55) ∧ (-55 ≤ t7 ∧ t7 ≤ 55) ∧ (-55 ≤ t8 ∧ t8 ≤ 55)) (bk0 : -25 ≤ k0 ∧ k0 ≤ 25) (bk1 : -25 ≤ k1 ∧ k1 ≤ 25) (bk2 : -25 ≤ k2 ∧ k2 ≤ 25) : -453750 ≤ nH2 t0 t1 t2 t3 t4 t5 t6 t7 t8 k0 k1 k2 ∧ nH2 t0 t1 t2 t3 t4 t5 t6 t7 t8 k0 k1 k2 ≤ 453750 := by
  obtain ⟨b0, b1, b2, b3, b4, b5, b6, b7, b8⟩ := hb
  have e0 := mulb 25 6050 bk0 (crs b1 b5 b4 b2); have e1 := mulb 25 6050 bk1 (crs b2 b3 b5 b0); have e2 := mulb 25 6050 bk2 (crs b0 b4 b3 b1)
  unfold nH2
  omega
theorem nSq_b {t0 t1 t2 t3 t4 t5 t6 t7 t8 k0 k1 k2 : Int} (hb : (-55 ≤ t0 ∧ t0 ≤ 55) ∧ (-55 ≤ t1 ∧ t1 ≤ 55) ∧ (-55 ≤ t2 ∧ t2 ≤ 55) ∧ (-55 ≤ t3 ∧ t3 ≤ 55) ∧ (-55 ≤ t4 ∧ t4 ≤ 55) ∧ (-55 ≤ t5 ∧ t5 ≤ 55) ∧ (-55 ≤ t6 ∧ t6 ≤ 55) ∧ (-55 ≤ t7 ∧ t7 ≤ 55) ∧ (-55 ≤ t8 ∧ t8 ≤ 55)) (bk0 : -25 ≤ k0 ∧ k0 ≤ 25) (bk1 : -25 ≤ k1 ∧ k1 ≤ 25) (bk2 : -25 ≤ k2 ∧ k2 ≤ 25) : 0 ≤ nSq t0 t1 t2 t3 t4 t5 t6 t7 t8 k0 k1 k2 ∧ nSq t0 t1 t2 t3 t4 t5 t6 t7 t8 k0 k1 k2 < 9223372036854775808 := by
  have a0 := nH0_b hb bk0 bk1 bk2; have e0 := mulb 453750 453750 a0 a0; have f0 := sq_nonneg' (nH0 t0 t1 t2 t3 t4 t5 t6 t7 t8 k0 k1 k2)
  have a1 := nH1_b hb bk0 bk1 bk2; have e1 := mulb 453750 453750 a1 a1; have f1 := sq_nonneg' (nH1 t0 t1 t2 t3 t4 t5 t6 t7 t8 k0 k1 k2)
  have a2 := nH2_b hb bk0 bk1 bk2; have e2 := mulb 453750 453750 a2 a2; have f2 := sq_nonneg' (nH2 t0 t1 t2 t3 t4 t5 t6 t7 t8 k0 k1 k2)
  unfold nSq
  omega
theorem adj_g {t0 t1 t2 t3 t4 t5 t6 t7 t8 : Int} (hb : (-55 ≤ t0 ∧ t0 ≤ 55) ∧ (-55 ≤ t1 ∧ t1 ≤ 55) ∧ (-55 ≤ t2 ∧ t2 ≤ 55) ∧ (-55 ≤ t3 ∧ t3 ≤ 55) ∧ (-55 ≤ t4 ∧ t4 ≤ 55) ∧ (-55 ≤ t5 ∧ t5 ≤ 55) ∧ (-55 ≤ t6 ∧ t6 ≤ 55) ∧ (-55 ≤ t7 ∧ t7 ≤ 55) ∧ (-55 ≤ t8 ∧ t8 ≤ 55)) (w : World) : Calls Try.prog 64 #[.agg #[.int .i64 ((gram t0 t1 t2 t3 t4 t5 t6 t7 t8).aa), .int .i64 ((gram t0 t1 t2 t3 t4 t5 t6 t7 t8).bb), .int .i64 ((gram t0 t1 t2 t3 t4 t5 t6 t7 t8).cc), .int .i64 ((gram t0 t1 t2 t3 t4 t5 t6 t7 t8).bc), .int .i64 ((gram t0 t1 t2 t3 t4 t5 t6 t7 t8).ac), .int .i64 ((gram t0 t1 t2 t3 t4 t5 t6 t7 t8).ab)]] w fun e w' => e = .returned (.agg #[.int .i64 (((gram t0 t1 t2 t3 t4 t5 t6 t7 t8).bb * (gram t0 t1 t2 t3 t4 t5 t6 t7 t8).cc - (gram t0 t1 t2 t3 t4 t5 t6 t7 t8).bc * (gram t0 t1 t2 t3 t4 t5 t6 t7 t8).bc)), .int .i64 (((gram t0 t1 t2 t3 t4 t5 t6 t7 t8).ac * (gram t0 t1 t2 t3 t4 t5 t6 t7 t8).bc - (gram t0 t1 t2 t3 t4 t5 t6 t7 t8).cc * (gram t0 t1 t2 t3 t4 t5 t6 t7 t8).ab)), .int .i64 (((gram t0 t1 t2 t3 t4 t5 t6 t7 t8).ab * (gram t0 t1 t2 t3 t4 t5 t6 t7 t8).bc - (gram t0 t1 t2 t3 t4 t5 t6 t7 t8).bb * (gram t0 t1 t2 t3 t4 t5 t6 t7 t8).ac)), .int .i64 (((gram t0 t1 t2 t3 t4 t5 t6 t7 t8).ac * (gram t0 t1 t2 t3 t4 t5 t6 t7 t8).bc - (gram t0 t1 t2 t3 t4 t5 t6 t7 t8).cc * (gram t0 t1 t2 t3 t4 t5 t6 t7 t8).ab)), .int .i64 (((gram t0 t1 t2 t3 t4 t5 t6 t7 t8).aa * (gram t0 t1 t2 t3 t4 t5 t6 t7 t8).cc - (gram t0 t1 t2 t3 t4 t5 t6 t7 t8).ac * (gram t0 t1 t2 t3 t4 t5 t6 t7 t8).ac)), .int .i64 (((gram t0 t1 t2 t3 t4 t5 t6 t7 t8).ab * (gram t0 t1 t2 t3 t4 t5 t6 t7 t8).ac - (gram t0 t1 t2 t3 t4 t5 t6 t7 t8).aa * (gram t0 t1 t2 t3 t4 t5 t6 t7 t8).bc)), .int .i64 (((gram t0 t1 t2 t3 t4 t5 t6 t7 t8).ab * (gram t0 t1 t2 t3 t4 t5 t6 t7 t8).bc - (gram t0 t1 t2 t3 t4 t5 t6 t7 t8).bb * (gram t0 t1 t2 t3 t4 t5 t6 t7 t8).ac)), .int .i64 (((gram t0 t1 t2 t3 t4 t5 t6 t7 t8).ab * (gram t0 t1 t2 t3 t4 t5 t6 t7 t8).ac - (gram t0 t1 t2 t3 t4 t5 t6 t7 t8).aa * (gram t0 t1 t2 t3 t4 t5 t6 t7 t8).bc)), .int .i64 (((gram t0 t1 t2 t3 t4 t5 t6 t7 t8).aa * (gram t0 t1 t2 t3 t4 t5 t6 t7 t8).bb - (gram t0 t1 t2 t3 t4 t5 t6 t7 t8).ab * (gram t0 t1 t2 t3 t4 t5 t6 t7 t8).ab))]) ∧ Below w.heap.size w w' := by
  obtain ⟨Baa, Bbb, Bcc, Bbc, Bac, Bab⟩ := gram_bnd hb
  have A := cadj_any (gram t0 t1 t2 t3 t4 t5 t6 t7 t8).aa (gram t0 t1 t2 t3 t4 t5 t6 t7 t8).bb (gram t0 t1 t2 t3 t4 t5 t6 t7 t8).cc (gram t0 t1 t2 t3 t4 t5 t6 t7 t8).bc (gram t0 t1 t2 t3 t4 t5 t6 t7 t8).ac (gram t0 t1 t2 t3 t4 t5 t6 t7 t8).ab w
  rw [show wrap64 ((gram t0 t1 t2 t3 t4 t5 t6 t7 t8).bb * (gram t0 t1 t2 t3 t4 t5 t6 t7 t8).cc - (gram t0 t1 t2 t3 t4 t5 t6 t7 t8).bc * (gram t0 t1 t2 t3 t4 t5 t6 t7 t8).bc) = ((gram t0 t1 t2 t3 t4 t5 t6 t7 t8).bb * (gram t0 t1 t2 t3 t4 t5 t6 t7 t8).cc - (gram t0 t1 t2 t3 t4 t5 t6 t7 t8).bc * (gram t0 t1 t2 t3 t4 t5 t6 t7 t8).bc) from by have e1 := mulb 9075 9075 Bbb Bcc; have e2 := mulb 9075 9075 Bbc Bbc; exact wrapE (by omega) (by omega), show wrap64 ((gram t0 t1 t2 t3 t4 t5 t6 t7 t8).aa * (gram t0 t1 t2 t3 t4 t5 t6 t7 t8).cc - (gram t0 t1 t2 t3 t4 t5 t6 t7 t8).ac * (gram t0 t1 t2 t3 t4 t5 t6 t7 t8).ac) = ((gram t0 t1 t2 t3 t4 t5 t6 t7 t8).aa * (gram t0 t1 t2 t3 t4 t5 t6 t7 t8).cc - (gram t0 t1 t2 t3 t4 t5 t6 t7 t8).ac * (gram t0 t1 t2 t3 t4 t5 t6 t7 t8).ac) from by have e1 := mulb 9075 9075 Baa Bcc; have e2 := mulb 9075 9075 Bac Bac; exact wrapE (by omega) (by omega), show wrap64 ((gram t0 t1 t2 t3 t4 t5 t6 t7 t8).aa * (gram t0 t1 t2 t3 t4 t5 t6 t7 t8).bb - (gram t0 t1 t2 t3 t4 t5 t6 t7 t8).ab * (gram t0 t1 t2 t3 t4 t5 t6 t7 t8).ab) = ((gram t0 t1 t2 t3 t4 t5 t6 t7 t8).aa * (gram t0 t1 t2 t3 t4 t5 t6 t7 t8).bb - (gram t0 t1 t2 t3 t4 t5 t6 t7 t8).ab * (gram t0 t1 t2 t3 t4 t5 t6 t7 t8).ab) from by have e1 := mulb 9075 9075 Baa Bbb; have e2 := mulb 9075 9075 Bab Bab; exact wrapE (by omega) (by omega), show wrap64 ((gram t0 t1 t2 t3 t4 t5 t6 t7 t8).ab * (gram t0 t1 t2 t3 t4 t5 t6 t7 t8).ac - (gram t0 t1 t2 t3 t4 t5 t6 t7 t8).aa * (gram t0 t1 t2 t3 t4 t5 t6 t7 t8).bc) = ((gram t0 t1 t2 t3 t4 t5 t6 t7 t8).ab * (gram t0 t1 t2 t3 t4 t5 t6 t7 t8).ac - (gram t0 t1 t2 t3 t4 t5 t6 t7 t8).aa * (gram t0 t1 t2 t3 t4 t5 t6 t7 t8).bc) from by have e1 := mulb 9075 9075 Bab Bac; have e2 := mulb 9075 9075 Baa Bbc; exact wrapE (by omega) (by omega), show wrap64 ((gram t0 t1 t2 t3 t4 t5 t6 t7 t8).ab * (gram t0 t1 t2 t3 t4 t5 t6 t7 t8).bc - (gram t0 t1 t2 t3 t4 t5 t6 t7 t8).bb * (gram t0 t1 t2 t3 t4 t5 t6 t7 t8).ac) = ((gram t0 t1 t2 t3 t4 t5 t6 t7 t8).ab * (gram t0 t1 t2 t3 t4 t5 t6 t7 t8).bc - (gram t0 t1 t2 t3 t4 t5 t6 t7 t8).bb * (gram t0 t1 t2 t3 t4 t5 t6 t7 t8).ac) from by have e1 := mulb 9075 9075 Bab Bbc; have e2 := mulb 9075 9075 Bbb Bac; exact wrapE (by omega) (by omega), show wrap64 ((gram t0 t1 t2 t3 t4 t5 t6 t7 t8).ac * (gram t0 t1 t2 t3 t4 t5 t6 t7 t8).bc - (gram t0 t1 t2 t3 t4 t5 t6 t7 t8).cc * (gram t0 t1 t2 t3 t4 t5 t6 t7 t8).ab) = ((gram t0 t1 t2 t3 t4 t5 t6 t7 t8).ac * (gram t0 t1 t2 t3 t4 t5 t6 t7 t8).bc - (gram t0 t1 t2 t3 t4 t5 t6 t7 t8).cc * (gram t0 t1 t2 t3 t4 t5 t6 t7 t8).ab) from by have e1 := mulb 9075 9075 Bac Bbc; have e2 := mulb 9075 9075 Bcc Bab; exact wrapE (by omega) (by omega)] at A
  exact A
theorem spacing_g {t0 t1 t2 t3 t4 t5 t6 t7 t8 : Int} (k0 k1 k2 : Int) (hb : (-55 ≤ t0 ∧ t0 ≤ 55) ∧ (-55 ≤ t1 ∧ t1 ≤ 55) ∧ (-55 ≤ t2 ∧ t2 ≤ 55) ∧ (-55 ≤ t3 ∧ t3 ≤ 55) ∧ (-55 ≤ t4 ∧ t4 ≤ 55) ∧ (-55 ≤ t5 ∧ t5 ≤ 55) ∧ (-55 ≤ t6 ∧ t6 ≤ 55) ∧ (-55 ≤ t7 ∧ t7 ≤ 55) ∧ (-55 ≤ t8 ∧ t8 ≤ 55)) (hd : dT t0 t1 t2 t3 t4 t5 t6 t7 t8 ≠ 0) (bk0 : -25 ≤ k0 ∧ k0 ≤ 25) (bk1 : -25 ≤ k1 ∧ k1 ≤ 25) (bk2 : -25 ≤ k2 ∧ k2 ≤ 25) (w : World) : Calls Try.prog 34 #[.agg #[.int .i64 ((gram t0 t1 t2 t3 t4 t5 t6 t7 t8).aa), .int .i64 ((gram t0 t1 t2 t3 t4 t5 t6 t7 t8).bb), .int .i64 ((gram t0 t1 t2 t3 t4 t5 t6 t7 t8).cc), .int .i64 ((gram t0 t1 t2 t3 t4 t5 t6 t7 t8).bc), .int .i64 ((gram t0 t1 t2 t3 t4 t5 t6 t7 t8).ac), .int .i64 ((gram t0 t1 t2 t3 t4 t5 t6 t7 t8).ab)], .agg #[.int .i64 k0, .int .i64 k1, .int .i64 k2]] w fun e w' => e = .returned (.tuple #[.agg #[.int .i64 ((nSq t0 t1 t2 t3 t4 t5 t6 t7 t8 k0 k1 k2).tdiv (Int.gcd (nSq t0 t1 t2 t3 t4 t5 t6 t7 t8 k0 k1 k2) (dT t0 t1 t2 t3 t4 t5 t6 t7 t8 * dT t0 t1 t2 t3 t4 t5 t6 t7 t8) : Nat)), .int .i64 ((dT t0 t1 t2 t3 t4 t5 t6 t7 t8 * dT t0 t1 t2 t3 t4 t5 t6 t7 t8).tdiv (Int.gcd (nSq t0 t1 t2 t3 t4 t5 t6 t7 t8 k0 k1 k2) (dT t0 t1 t2 t3 t4 t5 t6 t7 t8 * dT t0 t1 t2 t3 t4 t5 t6 t7 t8) : Nat))], .int .i64 0]) ∧ Below w.heap.size w w' := by
  have d0 := sq_nonneg' (dT t0 t1 t2 t3 t4 t5 t6 t7 t8); have db := dT_bnd hb; have dd := mulb 1000000 1000000 db db
  have d1 : dT t0 t1 t2 t3 t4 t5 t6 t7 t8 * dT t0 t1 t2 t3 t4 t5 t6 t7 t8 ≠ 0 := Int.mul_ne_zero hd hd
  have nb := nSq_b hb bk0 bk1 bk2
  exact Spacing_ok (gram t0 t1 t2 t3 t4 t5 t6 t7 t8).aa (gram t0 t1 t2 t3 t4 t5 t6 t7 t8).bb (gram t0 t1 t2 t3 t4 t5 t6 t7 t8).cc (gram t0 t1 t2 t3 t4 t5 t6 t7 t8).bc (gram t0 t1 t2 t3 t4 t5 t6 t7 t8).ac (gram t0 t1 t2 t3 t4 t5 t6 t7 t8).ab k0 k1 k2 ((gram t0 t1 t2 t3 t4 t5 t6 t7 t8).bb * (gram t0 t1 t2 t3 t4 t5 t6 t7 t8).cc - (gram t0 t1 t2 t3 t4 t5 t6 t7 t8).bc * (gram t0 t1 t2 t3 t4 t5 t6 t7 t8).bc) ((gram t0 t1 t2 t3 t4 t5 t6 t7 t8).ac * (gram t0 t1 t2 t3 t4 t5 t6 t7 t8).bc - (gram t0 t1 t2 t3 t4 t5 t6 t7 t8).cc * (gram t0 t1 t2 t3 t4 t5 t6 t7 t8).ab) ((gram t0 t1 t2 t3 t4 t5 t6 t7 t8).ab * (gram t0 t1 t2 t3 t4 t5 t6 t7 t8).bc - (gram t0 t1 t2 t3 t4 t5 t6 t7 t8).bb * (gram t0 t1 t2 t3 t4 t5 t6 t7 t8).ac) ((gram t0 t1 t2 t3 t4 t5 t6 t7 t8).ac * (gram t0 t1 t2 t3 t4 t5 t6 t7 t8).bc - (gram t0 t1 t2 t3 t4 t5 t6 t7 t8).cc * (gram t0 t1 t2 t3 t4 t5 t6 t7 t8).ab) ((gram t0 t1 t2 t3 t4 t5 t6 t7 t8).aa * (gram t0 t1 t2 t3 t4 t5 t6 t7 t8).cc - (gram t0 t1 t2 t3 t4 t5 t6 t7 t8).ac * (gram t0 t1 t2 t3 t4 t5 t6 t7 t8).ac) ((gram t0 t1 t2 t3 t4 t5 t6 t7 t8).ab * (gram t0 t1 t2 t3 t4 t5 t6 t7 t8).ac - (gram t0 t1 t2 t3 t4 t5 t6 t7 t8).aa * (gram t0 t1 t2 t3 t4 t5 t6 t7 t8).bc) ((gram t0 t1 t2 t3 t4 t5 t6 t7 t8).ab * (gram t0 t1 t2 t3 t4 t5 t6 t7 t8).bc - (gram t0 t1 t2 t3 t4 t5 t6 t7 t8).bb * (gram t0 t1 t2 t3 t4 t5 t6 t7 t8).ac) ((gram t0 t1 t2 t3 t4 t5 t6 t7 t8).ab * (gram t0 t1 t2 t3 t4 t5 t6 t7 t8).ac - (gram t0 t1 t2 t3 t4 t5 t6 t7 t8).aa * (gram t0 t1 t2 t3 t4 t5 t6 t7 t8).bc) ((gram t0 t1 t2 t3 t4 t5 t6 t7 t8).aa * (gram t0 t1 t2 t3 t4 t5 t6 t7 t8).bb - (gram t0 t1 t2 t3 t4 t5 t6 t7 t8).ab * (gram t0 t1 t2 t3 t4 t5 t6 t7 t8).ab) (nSq t0 t1 t2 t3 t4 t5 t6 t7 t8 k0 k1 k2) (dT t0 t1 t2 t3 t4 t5 t6 t7 t8 * dT t0 t1 t2 t3 t4 t5 t6 t7 t8) w (gram_ok hb hd) (by omega) (by omega) (by omega) (adj_g hb) (by rw [adj_nSq]; exact wrapE (by omega) (by omega)) (by rw [show detP (gram t0 t1 t2 t3 t4 t5 t6 t7 t8).aa (gram t0 t1 t2 t3 t4 t5 t6 t7 t8).bb (gram t0 t1 t2 t3 t4 t5 t6 t7 t8).cc (gram t0 t1 t2 t3 t4 t5 t6 t7 t8).bc (gram t0 t1 t2 t3 t4 t5 t6 t7 t8).ac (gram t0 t1 t2 t3 t4 t5 t6 t7 t8).ab = dT t0 t1 t2 t3 t4 t5 t6 t7 t8 * dT t0 t1 t2 t3 t4 t5 t6 t7 t8 from gram_det t0 t1 t2 t3 t4 t5 t6 t7 t8]; exact wrapE (by omega) (by omega)) nb (by omega)
end Go.Proofs.Ytdhlkhockpblhaa
namespace Go.Proofs.Ytdhlkhockpblhaa
open Go.RowKit
attribute [local irreducible] World.setCell

set_option linter.unusedSimpArgs false
set_option linter.unusedVariables false

theorem tm12 (b : Int) : -11 ≤ b.tmod 12 ∧ b.tmod 12 ≤ 11 := by
  rcases Int.le_total 0 b with h | h
  · rw [Int.tmod_eq_emod_of_nonneg h]; omega
  · obtain ⟨c, rfl⟩ : ∃ c, b = -c := ⟨-b, by omega⟩
    rw [Int.neg_tmod, Int.tmod_eq_emod_of_nonneg (by omega)]; omega
theorem d9_ok {t0 t1 t2 t3 t4 t5 t6 t7 t8 : Int} (hb : (-11 ≤ t0 ∧ t0 ≤ 11) ∧ (-11 ≤ t1 ∧ t1 ≤ 11) ∧ (-11 ≤ t2 ∧ t2 ≤ 11) ∧ (-11 ≤ t3 ∧ t3 ≤ 11) ∧ (-11 ≤ t4 ∧ t4 ≤ 11) ∧ (-11 ≤ t5 ∧ t5 ≤ 11) ∧ (-11 ≤ t6 ∧ t6 ≤ 11) ∧ (-11 ≤ t7 ∧ t7 ≤ 11) ∧ (-11 ≤ t8 ∧ t8 ≤ 11)) : wrap64 (M.d9 t0 t1 t2 t3 t4 t5 t6 t7 t8) = dT t0 t1 t2 t3 t4 t5 t6 t7 t8 := by
  have db := dT_bnd (show (-55 ≤ t0 ∧ t0 ≤ 55) ∧ (-55 ≤ t1 ∧ t1 ≤ 55) ∧ (-55 ≤ t2 ∧ t2 ≤ 55) ∧ (-55 ≤ t3 ∧ t3 ≤ 55) ∧ (-55 ≤ t4 ∧ t4 ≤ 55) ∧ (-55 ≤ t5 ∧ t5 ≤ 55) ∧ (-55 ≤ t6 ∧ t6 ≤ 55) ∧ (-55 ≤ t7 ∧ t7 ≤ 55) ∧ (-55 ≤ t8 ∧ t8 ≤ 55) from by omega)
  exact (congrArg wrap64 (show M.d9 t0 t1 t2 t3 t4 t5 t6 t7 t8 = dT t0 t1 t2 t3 t4 t5 t6 t7 t8 from rfl)).trans (wrapE (by omega) (by omega))
theorem m9_ok {t0 t1 t2 t3 t4 t5 t6 t7 t8 : Int} (hb : (-11 ≤ t0 ∧ t0 ≤ 11) ∧ (-11 ≤ t1 ∧ t1 ≤ 11) ∧ (-11 ≤ t2 ∧ t2 ≤ 11) ∧ (-11 ≤ t3 ∧ t3 ≤ 11) ∧ (-11 ≤ t4 ∧ t4 ≤ 11) ∧ (-11 ≤ t5 ∧ t5 ≤ 11) ∧ (-11 ≤ t6 ∧ t6 ≤ 11) ∧ (-11 ≤ t7 ∧ t7 ≤ 11) ∧ (-11 ≤ t8 ∧ t8 ≤ 11)) : M.matC t0 t1 t2 t3 t4 t5 t6 t7 t8 = 0 := by
  unfold M.matC
  rw [if_pos (by omega)]
theorem metric_t (b0 b1 b2 b3 b4 b5 b6 b7 b8 : Int) {t0 t1 t2 t3 t4 t5 t6 t7 t8 : Int} (w : World) (hb : (-11 ≤ t0 ∧ t0 ≤ 11) ∧ (-11 ≤ t1 ∧ t1 ≤ 11) ∧ (-11 ≤ t2 ∧ t2 ≤ 11) ∧ (-11 ≤ t3 ∧ t3 ≤ 11) ∧ (-11 ≤ t4 ∧ t4 ≤ 11) ∧ (-11 ≤ t5 ∧ t5 ≤ 11) ∧ (-11 ≤ t6 ∧ t6 ≤ 11) ∧ (-11 ≤ t7 ∧ t7 ≤ 11) ∧ (-11 ≤ t8 ∧ t8 ≤ 11)) (HM : ∀ w : World, Calls Try.prog 55 #[.agg #[.int .i8 b0, .int .i8 b1, .int .i8 b2, .int .i8 b3, .int .i8 b4, .int .i8 b5, .int .i8 b6, .int .i8 b7, .int .i8 b8]] w fun e w' => e = .returned (.agg #[.int .i64 t0, .int .i64 t1, .int .i64 t2, .int .i64 t3, .int .i64 t4, .int .i64 t5, .int .i64 t6, .int .i64 t7, .int .i64 t8]) ∧ Below w.heap.size w w') : Calls Try.prog 26 #[.agg #[.int .i8 b0, .int .i8 b1, .int .i8 b2, .int .i8 b3, .int .i8 b4, .int .i8 b5, .int .i8 b6, .int .i8 b7, .int .i8 b8]] w fun e w' => e = .returned (.tuple #[.agg #[.int .i64 ((gram t0 t1 t2 t3 t4 t5 t6 t7 t8).aa), .int .i64 ((gram t0 t1 t2 t3 t4 t5 t6 t7 t8).bb), .int .i64 ((gram t0 t1 t2 t3 t4 t5 t6 t7 t8).cc), .int .i64 ((gram t0 t1 t2 t3 t4 t5 t6 t7 t8).bc), .int .i64 ((gram t0 t1 t2 t3 t4 t5 t6 t7 t8).ac), .int .i64 ((gram t0 t1 t2 t3 t4 t5 t6 t7 t8).ab)], .bool (dT t0 t1 t2 t3 t4 t5 t6 t7 t8 != 0)]) ∧ Below w.heap.size w w' := by
  have gb := gram_bnd (show (-55 ≤ t0 ∧ t0 ≤ 55) ∧ (-55 ≤ t1 ∧ t1 ≤ 55) ∧ (-55 ≤ t2 ∧ t2 ≤ 55) ∧ (-55 ≤ t3 ∧ t3 ≤ 55) ∧ (-55 ≤ t4 ∧ t4 ≤ 55) ∧ (-55 ≤ t5 ∧ t5 ≤ 55) ∧ (-55 ≤ t6 ∧ t6 ≤ 55) ∧ (-55 ≤ t7 ∧ t7 ≤ 55) ∧ (-55 ≤ t8 ∧ t8 ≤ 55) from by omega)
  exact fmetric_ok b0 b1 b2 b3 b4 b5 b6 b7 b8 t0 t1 t2 t3 t4 t5 t6 t7 t8 (gram t0 t1 t2 t3 t4 t5 t6 t7 t8).aa (gram t0 t1 t2 t3 t4 t5 t6 t7 t8).bb (gram t0 t1 t2 t3 t4 t5 t6 t7 t8).cc (gram t0 t1 t2 t3 t4 t5 t6 t7 t8).bc (gram t0 t1 t2 t3 t4 t5 t6 t7 t8).ac (gram t0 t1 t2 t3 t4 t5 t6 t7 t8).ab (dT t0 t1 t2 t3 t4 t5 t6 t7 t8) w HM (wrapE (x := (gram t0 t1 t2 t3 t4 t5 t6 t7 t8).aa) (by have := gb; omega) (by have := gb; omega)) (wrapE (x := (gram t0 t1 t2 t3 t4 t5 t6 t7 t8).bb) (by have := gb; omega) (by have := gb; omega)) (wrapE (x := (gram t0 t1 t2 t3 t4 t5 t6 t7 t8).cc) (by have := gb; omega) (by have := gb; omega)) (wrapE (x := (gram t0 t1 t2 t3 t4 t5 t6 t7 t8).bc) (by have := gb; omega) (by have := gb; omega)) (wrapE (x := (gram t0 t1 t2 t3 t4 t5 t6 t7 t8).ac) (by have := gb; omega) (by have := gb; omega)) (wrapE (x := (gram t0 t1 t2 t3 t4 t5 t6 t7 t8).ab) (by have := gb; omega) (by have := gb; omega)) (fun w => by have A := M.Det_ok t0 t1 t2 t3 t4 t5 t6 t7 t8 w (m9_ok hb); rw [d9_ok hb] at A; exact A)
end Go.Proofs.Ytdhlkhockpblhaa
namespace Go.Proofs.Ytdhlkhockpblhaa
open Go.RowKit
attribute [local irreducible] World.setCell

set_option linter.unusedSimpArgs false
set_option linter.unusedVariables false

theorem signs_all (k : Int) (N : Nat) (w : World) (k1 : 0 ≤ k) (k2 : k ≤ 255) (h : k.tmod 48 = (N : Int)) (hN : N < 48) : Calls Try.prog 28 #[.int .u8 k] w fun e w' => e = .returned (.agg #[.int .i64 ((M.sgM N).p00), .int .i64 ((M.sgM N).p01), .int .i64 ((M.sgM N).p02), .int .i64 ((M.sgM N).p10), .int .i64 ((M.sgM N).p11), .int .i64 ((M.sgM N).p12), .int .i64 ((M.sgM N).p20), .int .i64 ((M.sgM N).p21), .int .i64 ((M.sgM N).p22)]) ∧ Below w.heap.size w w' := by
  rcases (by omega : N < 8 ∨ (8 ≤ N ∧ N < 16) ∨ (16 ≤ N ∧ N < 24) ∨ (24 ≤ N ∧ N < 32) ∨ (32 ≤ N ∧ N < 40) ∨ 40 ≤ N) with c | c | c | c | c | c
  · exact M.sgq_0 k N w k1 k2 h (by omega) (by omega)
  · exact M.sgq_1 k N w k1 k2 h (by omega) (by omega)
  · exact M.sgq_2 k N w k1 k2 h (by omega) (by omega)
  · exact M.sgq_3 k N w k1 k2 h (by omega) (by omega)
  · exact M.sgq_4 k N w k1 k2 h (by omega) (by omega)
  · exact M.sgq_5 k N w k1 k2 h (by omega) (by omega)
set_option maxHeartbeats 800000 in
theorem vdet_bad (p00 p01 p02 p10 p11 p12 p20 p21 p22 : Int) (C : Int) (w : World) (h : M.matC p00 p01 p02 p10 p11 p12 p20 p21 p22 = C) (hC : C ≠ 0):
    Calls Try.prog 35 #[.agg #[.int .i64 p00, .int .i64 p01, .int .i64 p02, .int .i64 p10, .int .i64 p11, .int .i64 p12, .int .i64 p20, .int .i64 p21, .int .i64 p22]] w fun e w' => e = .returned (.tuple #[.int .i64 0, .int .i64 C]) ∧ Below w.heap.size w w' := by
  have HP := Lib.hid h; clear h
  have nC : (C != 0) = true := by simp [hC]
  clear hC
  go_enter Try.func35, Try.ntmps35
  go_wp2_with fail
  refine (to_v (congrArg (Value.int .i64) HP.out) (M.vcheck_any p00 p01 p02 p10 p11 p12 p20 p21 p22 _)).mono ?_
  rintro e w1 ⟨rfl, hb1⟩
  obtain ⟨hc1, hf1⟩ := bcell hb1
  have hz1 := hb1.size
  try simp at hz1
  have z1_0 : w.heap.size < w1.heap.size := by omega
  go_wp2
  refine bodyPost_ret (v := .tuple #[.int .i64 0, .int .i64 C]) (by simp [results, Try.results35, go_sem, wrap_add_l, wrap_add_r, wrap_sub_l, wrap_sub_r, wrap_mul_l, wrap_mul_r, wrap_neg, wrap_wrap, *]) rfl ⟨rfl, ?_⟩
  repeat (first | exact Below.refl _ _ | assumption | exact Below.alloc (Below.refl _ _) (Nat.le_refl _) _ | refine Below.setCell ?_ (by first | (simp; done) | (simp; omega) | omega) _ | refine below_drewN ?_ _ | refine Below.alloc ?_ (by first | (simp; done) | (simp; omega) | omega) _ | refine Below.trans ?_ (Below.mono (by assumption) (by first | (simp; done) | (simp; omega) | omega)))

theorem turned_dd {n : Nat} {P Q : Mt} (h : PQ n P Q) (t0 t1 t2 t3 t4 t5 t6 t7 t8 : Int) : dT (t0 * Q.p00 + t1 * Q.p10 + t2 * Q.p20) (t0 * Q.p01 + t1 * Q.p11 + t2 * Q.p21) (t0 * Q.p02 + t1 * Q.p12 + t2 * Q.p22) (t3 * Q.p00 + t4 * Q.p10 + t5 * Q.p20) (t3 * Q.p01 + t4 * Q.p11 + t5 * Q.p21) (t3 * Q.p02 + t4 * Q.p12 + t5 * Q.p22) (t6 * Q.p00 + t7 * Q.p10 + t8 * Q.p20) (t6 * Q.p01 + t7 * Q.p11 + t8 * Q.p21) (t6 * Q.p02 + t7 * Q.p12 + t8 * Q.p22) * dT (t0 * Q.p00 + t1 * Q.p10 + t2 * Q.p20) (t0 * Q.p01 + t1 * Q.p11 + t2 * Q.p21) (t0 * Q.p02 + t1 * Q.p12 + t2 * Q.p22) (t3 * Q.p00 + t4 * Q.p10 + t5 * Q.p20) (t3 * Q.p01 + t4 * Q.p11 + t5 * Q.p21) (t3 * Q.p02 + t4 * Q.p12 + t5 * Q.p22) (t6 * Q.p00 + t7 * Q.p10 + t8 * Q.p20) (t6 * Q.p01 + t7 * Q.p11 + t8 * Q.p21) (t6 * Q.p02 + t7 * Q.p12 + t8 * Q.p22) = dT t0 t1 t2 t3 t4 t5 t6 t7 t8 * dT t0 t1 t2 t3 t4 t5 t6 t7 t8 := by
  rw [dT_mul t0 t1 t2 t3 t4 t5 t6 t7 t8 Q.p00 Q.p01 Q.p02 Q.p10 Q.p11 Q.p12 Q.p20 Q.p21 Q.p22]
  have e := h.dq
  have e2 : dT t0 t1 t2 t3 t4 t5 t6 t7 t8 * D9 ⟨Q.p00, Q.p01, Q.p02, Q.p10, Q.p11, Q.p12, Q.p20, Q.p21, Q.p22⟩ * (dT t0 t1 t2 t3 t4 t5 t6 t7 t8 * D9 ⟨Q.p00, Q.p01, Q.p02, Q.p10, Q.p11, Q.p12, Q.p20, Q.p21, Q.p22⟩) = dT t0 t1 t2 t3 t4 t5 t6 t7 t8 * dT t0 t1 t2 t3 t4 t5 t6 t7 t8 * (D9 Q * D9 Q) := by
    show dT t0 t1 t2 t3 t4 t5 t6 t7 t8 * D9 Q * (dT t0 t1 t2 t3 t4 t5 t6 t7 t8 * D9 Q) = _
    grind
  rw [e2, e, Int.mul_one]
theorem turned_nS {n : Nat} {P Q : Mt} (h : PQ n P Q) (t0 t1 t2 t3 t4 t5 t6 t7 t8 k0 k1 k2 : Int) : nSq (t0 * Q.p00 + t1 * Q.p10 + t2 * Q.p20) (t0 * Q.p01 + t1 * Q.p11 + t2 * Q.p21) (t0 * Q.p02 + t1 * Q.p12 + t2 * Q.p22) (t3 * Q.p00 + t4 * Q.p10 + t5 * Q.p20) (t3 * Q.p01 + t4 * Q.p11 + t5 * Q.p21) (t3 * Q.p02 + t4 * Q.p12 + t5 * Q.p22) (t6 * Q.p00 + t7 * Q.p10 + t8 * Q.p20) (t6 * Q.p01 + t7 * Q.p11 + t8 * Q.p21) (t6 * Q.p02 + t7 * Q.p12 + t8 * Q.p22) (k0 * Q.p00 + k1 * Q.p10 + k2 * Q.p20) (k0 * Q.p01 + k1 * Q.p11 + k2 * Q.p21) (k0 * Q.p02 + k1 * Q.p12 + k2 * Q.p22) = nSq t0 t1 t2 t3 t4 t5 t6 t7 t8 k0 k1 k2 := nSq_mul t0 t1 t2 t3 t4 t5 t6 t7 t8 Q.p00 Q.p01 Q.p02 Q.p10 Q.p11 Q.p12 Q.p20 Q.p21 Q.p22 k0 k1 k2 h.dq
theorem spacing_n {n : Nat} {P Q : Mt} (h : PQ n P Q) {t0 t1 t2 t3 t4 t5 t6 t7 t8 : Int} (hb : (-11 ≤ t0 ∧ t0 ≤ 11) ∧ (-11 ≤ t1 ∧ t1 ≤ 11) ∧ (-11 ≤ t2 ∧ t2 ≤ 11) ∧ (-11 ≤ t3 ∧ t3 ≤ 11) ∧ (-11 ≤ t4 ∧ t4 ≤ 11) ∧ (-11 ≤ t5 ∧ t5 ≤ 11) ∧ (-11 ≤ t6 ∧ t6 ≤ 11) ∧ (-11 ≤ t7 ∧ t7 ≤ 11) ∧ (-11 ≤ t8 ∧ t8 ≤ 11)) (hd : dT t0 t1 t2 t3 t4 t5 t6 t7 t8 ≠ 0) (k0 k1 k2 : Int) (bk0 : -5 ≤ k0 ∧ k0 ≤ 5) (bk1 : -5 ≤ k1 ∧ k1 ≤ 5) (bk2 : -5 ≤ k2 ∧ k2 ≤ 5) (w : World) : Calls Try.prog 34 #[.agg #[.int .i64 ((gr (gram t0 t1 t2 t3 t4 t5 t6 t7 t8) Q).aa), .int .i64 ((gr (gram t0 t1 t2 t3 t4 t5 t6 t7 t8) Q).bb), .int .i64 ((gr (gram t0 t1 t2 t3 t4 t5 t6 t7 t8) Q).cc), .int .i64 ((gr (gram t0 t1 t2 t3 t4 t5 t6 t7 t8) Q).bc), .int .i64 ((gr (gram t0 t1 t2 t3 t4 t5 t6 t7 t8) Q).ac), .int .i64 ((gr (gram t0 t1 t2 t3 t4 t5 t6 t7 t8) Q).ab)], .agg #[.int .i64 ((k0 * Q.p00 + k1 * Q.p10 + k2 * Q.p20)), .int .i64 ((k0 * Q.p01 + k1 * Q.p11 + k2 * Q.p21)), .int .i64 ((k0 * Q.p02 + k1 * Q.p12 + k2 * Q.p22))]] w fun e w' => e = .returned (.tuple #[.agg #[.int .i64 ((nSq t0 t1 t2 t3 t4 t5 t6 t7 t8 k0 k1 k2).tdiv (Int.gcd (nSq t0 t1 t2 t3 t4 t5 t6 t7 t8 k0 k1 k2) (dT t0 t1 t2 t3 t4 t5 t6 t7 t8 * dT t0 t1 t2 t3 t4 t5 t6 t7 t8) : Nat)), .int .i64 ((dT t0 t1 t2 t3 t4 t5 t6 t7 t8 * dT t0 t1 t2 t3 t4 t5 t6 t7 t8).tdiv (Int.gcd (nSq t0 t1 t2 t3 t4 t5 t6 t7 t8 k0 k1 k2) (dT t0 t1 t2 t3 t4 t5 t6 t7 t8 * dT t0 t1 t2 t3 t4 t5 t6 t7 t8) : Nat))], .int .i64 0]) ∧ Below w.heap.size w w' := by
  have A := spacing_g (k0 * Q.p00 + k1 * Q.p10 + k2 * Q.p20) (k0 * Q.p01 + k1 * Q.p11 + k2 * Q.p21) (k0 * Q.p02 + k1 * Q.p12 + k2 * Q.p22) (tq_bnd h hb) (by rw [dT_mul t0 t1 t2 t3 t4 t5 t6 t7 t8 Q.p00 Q.p01 Q.p02 Q.p10 Q.p11 Q.p12 Q.p20 Q.p21 Q.p22]; exact Int.mul_ne_zero hd (dq_ne h)) (col5 h.s0 bk0 bk1 bk2) (col5 h.s1 bk0 bk1 bk2) (col5 h.s2 bk0 bk1 bk2) w
  rw [← turned_gram, turned_nS h, turned_dd h] at A
  exact A
theorem dot_n {n : Nat} {P Q : Mt} (h : PQ n P Q) (m : Met) (hc : chk (gr m Q) = 0) (x0 x1 x2 y0 y1 y2 : Int) (w : World) (bx0 : -128 ≤ x0 ∧ x0 ≤ 128) (bx1 : -128 ≤ x1 ∧ x1 ≤ 128) (bx2 : -128 ≤ x2 ∧ x2 ≤ 128) (by0 : -128 ≤ y0 ∧ y0 ≤ 128) (by1 : -128 ≤ y1 ∧ y1 ≤ 128) (by2 : -128 ≤ y2 ∧ y2 ≤ 128) : Calls Try.prog 31 #[.agg #[.int .i64 ((gr m Q).aa), .int .i64 ((gr m Q).bb), .int .i64 ((gr m Q).cc), .int .i64 ((gr m Q).bc), .int .i64 ((gr m Q).ac), .int .i64 ((gr m Q).ab)], .agg #[.int .i64 ((P.p00 * x0 + P.p01 * x1 + P.p02 * x2)), .int .i64 ((P.p10 * x0 + P.p11 * x1 + P.p12 * x2)), .int .i64 ((P.p20 * x0 + P.p21 * x1 + P.p22 * x2))], .agg #[.int .i64 ((P.p00 * y0 + P.p01 * y1 + P.p02 * y2)), .int .i64 ((P.p10 * y0 + P.p11 * y1 + P.p12 * y2)), .int .i64 ((P.p20 * y0 + P.p21 * y1 + P.p22 * y2))]] w fun e w' => e = .returned (.tuple #[.int .i64 (wrap64 (bil m x0 x1 x2 y0 y1 y2)), .int .i64 0]) ∧ Below w.heap.size w w' := by
  have A := dot_v (gr m Q) hc (P.p00 * x0 + P.p01 * x1 + P.p02 * x2) (P.p10 * x0 + P.p11 * x1 + P.p12 * x2) (P.p20 * x0 + P.p21 * x1 + P.p22 * x2) (P.p00 * y0 + P.p01 * y1 + P.p02 * y2) (P.p10 * y0 + P.p11 * y1 + P.p12 * y2) (P.p20 * y0 + P.p21 * y1 + P.p22 * y2) w (by have := row3 h.r0 bx0 bx1 bx2; omega) (by have := row3 h.r1 bx0 bx1 bx2; omega) (by have := row3 h.r2 bx0 bx1 bx2; omega) (by have := row3 h.r0 by0 by1 by2; omega) (by have := row3 h.r1 by0 by1 by2; omega) (by have := row3 h.r2 by0 by1 by2; omega)
  rw [bil_same h] at A
  exact A
theorem tdiv_zero {N D : Int} (hN : 0 ≤ N) (hD : 0 < D) : (N.tdiv (Int.gcd N D : Nat) == 0) = (N == 0) := by
  have g0 : 0 < Int.gcd N D := Int.gcd_pos_of_ne_zero_right _ (by omega)
  obtain ⟨c, hc⟩ := Int.gcd_dvd_left (a := N) (b := D)
  have e : N.tdiv (Int.gcd N D : Nat) = c := by
    conv => lhs; lhs; rw [hc]
    exact Int.mul_tdiv_cancel_left _ (by omega)
  rw [e]
  by_cases h : c = 0
  · rw [h, Int.mul_zero] at hc
    rw [h, hc]
  · have : N ≠ 0 := by
      rw [hc]; exact Int.mul_ne_zero (by omega) h
    rw [beq_eq_false_iff_ne.2 h, beq_eq_false_iff_ne.2 this]
theorem zero_same {t0 t1 t2 t3 t4 t5 t6 t7 t8 k0 k1 k2 : Int}  (hd : dT t0 t1 t2 t3 t4 t5 t6 t7 t8 ≠ 0) : ((nSq t0 t1 t2 t3 t4 t5 t6 t7 t8 k0 k1 k2).tdiv (Int.gcd (nSq t0 t1 t2 t3 t4 t5 t6 t7 t8 k0 k1 k2) (dT t0 t1 t2 t3 t4 t5 t6 t7 t8 * dT t0 t1 t2 t3 t4 t5 t6 t7 t8) : Nat) == 0) = (k0 == 0 && (k1 == 0 && k2 == 0)) := by
  have d0 := sq_nonneg' (dT t0 t1 t2 t3 t4 t5 t6 t7 t8)
  have d1 : dT t0 t1 t2 t3 t4 t5 t6 t7 t8 * dT t0 t1 t2 t3 t4 t5 t6 t7 t8 ≠ 0 := Int.mul_ne_zero hd hd
  have n0 : 0 ≤ nSq t0 t1 t2 t3 t4 t5 t6 t7 t8 k0 k1 k2 := by
    have a := sq_nonneg' (nH0 t0 t1 t2 t3 t4 t5 t6 t7 t8 k0 k1 k2); have b := sq_nonneg' (nH1 t0 t1 t2 t3 t4 t5 t6 t7 t8 k0 k1 k2); have c := sq_nonneg' (nH2 t0 t1 t2 t3 t4 t5 t6 t7 t8 k0 k1 k2)
    unfold nSq; omega
  rw [tdiv_zero n0 (by omega)]
  have e := nSq_zero (h0 := k0) (h1 := k1) (h2 := k2) hd
  by_cases h : nSq t0 t1 t2 t3 t4 t5 t6 t7 t8 k0 k1 k2 = 0
  · obtain ⟨a, b, c⟩ := e.1 h
    rw [a, b, c] at h ⊢
    rw [h]
    rfl
  · have hn : ¬ (k0 = 0 ∧ k1 = 0 ∧ k2 = 0) := fun q => h (e.2 q)
    have : (k0 == 0 && (k1 == 0 && k2 == 0)) = false := by
      simp only [Bool.and_eq_false_iff, beq_eq_false_iff_ne]; omega
    rw [this]; simp [h]
theorem step_end {m : Met} (hc : chk m = 0) (hp : pick m = 6) (w : World) : Calls Try.prog 10 #[.agg #[.int .i64 m.aa, .int .i64 m.bb, .int .i64 m.cc, .int .i64 m.bc, .int .i64 m.ac, .int .i64 m.ab]] w fun e w' => e = .returned (.tuple #[.agg #[.int .i64 ((nx (pick m) m).aa), .int .i64 ((nx (pick m) m).bb), .int .i64 ((nx (pick m) m).cc), .int .i64 ((nx (pick m) m).bc), .int .i64 ((nx (pick m) m).ac), .int .i64 ((nx (pick m) m).ab)], .agg #[.int .i64 ((qk (pick m)).p00), .int .i64 ((qk (pick m)).p01), .int .i64 ((qk (pick m)).p02), .int .i64 ((qk (pick m)).p10), .int .i64 ((qk (pick m)).p11), .int .i64 ((qk (pick m)).p12), .int .i64 ((qk (pick m)).p20), .int .i64 ((qk (pick m)).p21), .int .i64 ((qk (pick m)).p22)], .bool false, .int .i64 0]) ∧ Below w.heap.size w w' := to_v ((if_pos hc).trans (by rw [show decide (pick m < 6) = false from decide_eq_false (by omega)])) (Step_all m w)
theorem end_case {m : Met} (h : chk m = 0) {N : Nat} (hN : pick (it m N) = 6) (hl : ∀ k, k < N → pick (it m k) < 6) : ∃ t0 t1 t2 t3 t4 t5 c1 c2 c3 dp : Int, (∀ w : World, Calls Try.prog 24 #[.agg #[.int .i64 m.aa, .int .i64 m.bb, .int .i64 m.cc, .int .i64 m.bc, .int .i64 m.ac, .int .i64 m.ab], .agg #[.int .i64 ((al m N).p00), .int .i64 ((al m N).p01), .int .i64 ((al m N).p02), .int .i64 ((al m N).p10), .int .i64 ((al m N).p11), .int .i64 ((al m N).p12), .int .i64 ((al m N).p20), .int .i64 ((al m N).p21), .int .i64 ((al m N).p22)]] w fun e w' => e = .returned (.tuple #[.agg #[.int .i64 t0, .int .i64 t1, .int .i64 t2, .int .i64 t3, .int .i64 t4, .int .i64 t5], .int .i64 c1]) ∧ Below w.heap.size w w') ∧ (∀ w : World, Calls Try.prog 35 #[.agg #[.int .i64 ((al m N).p00), .int .i64 ((al m N).p01), .int .i64 ((al m N).p02), .int .i64 ((al m N).p10), .int .i64 ((al m N).p11), .int .i64 ((al m N).p12), .int .i64 ((al m N).p20), .int .i64 ((al m N).p21), .int .i64 ((al m N).p22)]] w fun e w' => e = .returned (.tuple #[.int .i64 dp, .int .i64 c2]) ∧ Below w.heap.size w w') ∧ (∀ w : World, Calls Try.prog 36 #[.agg #[.int .i64 ((al m N).p00), .int .i64 ((al m N).p01), .int .i64 ((al m N).p02), .int .i64 ((al m N).p10), .int .i64 ((al m N).p11), .int .i64 ((al m N).p12), .int .i64 ((al m N).p20), .int .i64 ((al m N).p21), .int .i64 ((al m N).p22)]] w fun e w' => e = .returned (.int .i64 c3) ∧ Below w.heap.size w w') ∧ ((c3 ≠ 0 ∧ c1 = 4 ∧ c2 = 4) ∨ (c3 = 0 ∧ c1 = 0 ∧ c2 = 0 ∧ (it m N).aa = t0 ∧ (it m N).bb = t1 ∧ (it m N).cc = t2 ∧ (it m N).bc = t3 ∧ (it m N).ac = t4 ∧ (it m N).ab = t5 ∧ wrap64 (dp * dp) = 1)) := by
  by_cases hm : matC (al m N).p00 (al m N).p01 (al m N).p02 (al m N).p10 (al m N).p11 (al m N).p12 (al m N).p20 (al m N).p21 (al m N).p22 = 0
  · have hf := end_form h hN hl hm
    have ht := end_turned h hN hl hm
    refine ⟨(it m N).aa, (it m N).bb, (it m N).cc, (it m N).bc, (it m N).ac, (it m N).ab, 0, 0, 0, wrap64 (d9 (al m N).p00 (al m N).p01 (al m N).p02 (al m N).p10 (al m N).p11 (al m N).p12 (al m N).p20 (al m N).p21 (al m N).p22), fun w => ?_, fun w => M.Det_ok (al m N).p00 (al m N).p01 (al m N).p02 (al m N).p10 (al m N).p11 (al m N).p12 (al m N).p20 (al m N).p21 (al m N).p22 w hm, fun w => to_v (congrArg (Value.int .i64) hm) (M.vcheck_any (al m N).p00 (al m N).p01 (al m N).p02 (al m N).p10 (al m N).p11 (al m N).p12 (al m N).p20 (al m N).p21 (al m N).p22 w), Or.inr ⟨rfl, rfl, rfl, rfl, rfl, rfl, rfl, rfl, rfl, ?_⟩⟩
    · have A := Turned_ok m (al m N).p00 (al m N).p01 (al m N).p02 (al m N).p10 (al m N).p11 (al m N).p12 (al m N).p20 (al m N).p21 (al m N).p22 w h hf
      exact to_v (congrArg (fun x : Met => Value.tuple #[.agg #[.int .i64 x.aa, .int .i64 x.bb, .int .i64 x.cc, .int .i64 x.bc, .int .i64 x.ac, .int .i64 x.ab], .int .i64 0]) ht) A
    · rw [end_det h hN hl]
      rcases (by omega : ((N : Int) % 2 = 0) ∨ ((N : Int) % 2 = 1)) with e | e <;> rw [e] <;> exact (wrapE (by omega) (by omega)).trans (by decide)
  · have hf := end_formbad (m := m) (N := N) hm
    have h4 : M.matC (al m N).p00 (al m N).p01 (al m N).p02 (al m N).p10 (al m N).p11 (al m N).p12 (al m N).p20 (al m N).p21 (al m N).p22 = 4 := by
      unfold matC at hm
      split at hm
      · exact absurd rfl hm
      · next hb => unfold M.matC; rw [if_neg hb]
    exact ⟨0, 0, 0, 0, 0, 0, 4, 4, 4, 0, fun w => Turned_bad m (al m N).p00 (al m N).p01 (al m N).p02 (al m N).p10 (al m N).p11 (al m N).p12 (al m N).p20 (al m N).p21 (al m N).p22 0 4 4 w h hf (Or.inr (Or.inl ⟨rfl, rfl, rfl⟩)), fun w => vdet_bad (al m N).p00 (al m N).p01 (al m N).p02 (al m N).p10 (al m N).p11 (al m N).p12 (al m N).p20 (al m N).p21 (al m N).p22 4 w h4 (by decide), fun w => to_v (congrArg (Value.int .i64) h4) (M.vcheck_any (al m N).p00 (al m N).p01 (al m N).p02 (al m N).p10 (al m N).p11 (al m N).p12 (al m N).p20 (al m N).p21 (al m N).p22 w), Or.inl ⟨by decide, rfl, rfl⟩⟩
theorem bil_bnd {m : Met} (Baa : -9075 ≤ m.aa ∧ m.aa ≤ 9075) (Bbb : -9075 ≤ m.bb ∧ m.bb ≤ 9075) (Bcc : -9075 ≤ m.cc ∧ m.cc ≤ 9075) (Bbc : -9075 ≤ m.bc ∧ m.bc ≤ 9075) (Bac : -9075 ≤ m.ac ∧ m.ac ≤ 9075) (Bab : -9075 ≤ m.ab ∧ m.ab ≤ 9075) {i j k : Int} (hi : -3 ≤ i ∧ i ≤ 3) (hj : -3 ≤ j ∧ j ≤ 3) (hk : -3 ≤ k ∧ k ≤ 3) : wrap64 (bil m i j k i j k) = bil m i j k i j k := by
  have e00 := mulb 27225 3 (mulb 3 9075 hi Baa) hi
  have e01 := mulb 27225 3 (mulb 3 9075 hi Bab) hj
  have e02 := mulb 27225 3 (mulb 3 9075 hi Bac) hk
  have e10 := mulb 27225 3 (mulb 3 9075 hj Bab) hi
  have e11 := mulb 27225 3 (mulb 3 9075 hj Bbb) hj
  have e12 := mulb 27225 3 (mulb 3 9075 hj Bbc) hk
  have e20 := mulb 27225 3 (mulb 3 9075 hk Bac) hi
  have e21 := mulb 27225 3 (mulb 3 9075 hk Bbc) hj
  have e22 := mulb 27225 3 (mulb 3 9075 hk Bcc) hk
  unfold bil
  exact wrapE (by omega) (by omega)
theorem short_end {m : Met} (Baa : -9075 ≤ m.aa ∧ m.aa ≤ 9075) (Bbb : -9075 ≤ m.bb ∧ m.bb ≤ 9075) (Bcc : -9075 ≤ m.cc ∧ m.cc ≤ 9075) (Bbc : -9075 ≤ m.bc ∧ m.bc ≤ 9075) (Bac : -9075 ≤ m.ac ∧ m.ac ≤ 9075) (Bab : -9075 ≤ m.ab ∧ m.ab ≤ 9075) (h : chk m = 0) {N : Nat} (hN : pick (it m N) = 6) (hl : ∀ k, k < N → pick (it m k) < 6) (w : World) : Calls Try.prog 37 #[.agg #[.int .i64 m.aa, .int .i64 m.bb, .int .i64 m.cc, .int .i64 m.bc, .int .i64 m.ac, .int .i64 m.ab], .int .i64 (lst (it m N) 6)] w fun e w' => e = .returned (.bool true) ∧ Below w.heap.size w w' :=
  shorter_ok m.aa m.bb m.cc m.bc m.ac m.ab (lst (it m N) 6) (fun i j k => wrap64 (bil m i j k i j k)) w
    (fun i j k hi hj hk w => dot_v m h i j k i j k w (by omega) (by omega) (by omega) (by omega) (by omega) (by omega))
    (fun i j k hi hj hk hz => by show _ ≤ wrap64 _; rw [bil_bnd Baa Bbb Bcc Bbc Bac Bab hi hj hk]; exact end_short h hN hl i j k hz)
end Go.Proofs.Ytdhlkhockpblhaa
