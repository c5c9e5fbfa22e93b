/-
  The maps of a number: one of the 72 good ones.
-/
import Derived.Test.YtjghhgapacnpeaaMatS1
import Derived.Test.YtjghhgapacnpeaaMatS2
import Derived.Test.YtjghhgapacnpeaaMatS3
import Derived.Test.YtjghhgapacnpeaaMatS4
import Derived.Test.YtjghhgapacnpeaaMatS5
import Derived.Test.YtjghhgapacnpeaaMatS6
import Derived.Test.YtjghhgapacnpeaaMatX0
import Derived.Test.YtjghhgapacnpeaaMatX1
import Derived.Test.YtjghhgapacnpeaaMatX2
import Derived.Test.YtjghhgapacnpeaaMatP
namespace Go.Proofs.Ytjghhgapacnpeaa
open Go.RowKit
attribute [local irreducible] World.setCell

set_option linter.unusedSimpArgs false
set_option linter.unusedVariables false

theorem signs_any (k : Int) (k1 : 0 ≤ k) (k2 : k ≤ 255) : ∃ g, Good g ∧ ∀ w, Calls Try.prog 13 #[.int .u8 k] w fun e w' => e = .returned (.agg #[.int .i64 g.p00, .int .i64 g.p01, .int .i64 g.p02, .int .i64 g.p10, .int .i64 g.p11, .int .i64 g.p12, .int .i64 g.p20, .int .i64 g.p21, .int .i64 g.p22]) ∧ Below w.heap.size w w' := by
  obtain ⟨N, hN⟩ : ∃ N : Nat, k.tmod 48 = (N : Int) := ⟨(k.tmod 48).toNat, (Int.toNat_of_nonneg (Int.tmod_nonneg 48 k1)).symm⟩
  have hlt : N < 48 := by have := Int.tmod_lt_of_pos k (show (0 : Int) < 48 by decide); omega
  refine ⟨sgM N, sg_good N hlt, fun w => ?_⟩
  rcases (by omega : N < 8 ∨ (8 ≤ N ∧ N < 16) ∨ (16 ≤ N ∧ N < 24) ∨ (24 ≤ N ∧ N < 32) ∨ (32 ≤ N ∧ N < 40) ∨ (40 ≤ N ∧ N < 48)) with h | h | h | h | h | h
  · exact sgq_0 k N w k1 k2 hN (by omega) (by omega)
  · exact sgq_1 k N w k1 k2 hN (by omega) (by omega)
  · exact sgq_2 k N w k1 k2 hN (by omega) (by omega)
  · exact sgq_3 k N w k1 k2 hN (by omega) (by omega)
  · exact sgq_4 k N w k1 k2 hN (by omega) (by omega)
  · exact sgq_5 k N w k1 k2 hN (by omega) (by omega)
theorem sixfold_any (k : Int) (k1 : 0 ≤ k) (k2 : k ≤ 255) : ∃ g, Good g ∧ ∀ w, Calls Try.prog 14 #[.int .u8 k] w fun e w' => e = .returned (.agg #[.int .i64 g.p00, .int .i64 g.p01, .int .i64 g.p02, .int .i64 g.p10, .int .i64 g.p11, .int .i64 g.p12, .int .i64 g.p20, .int .i64 g.p21, .int .i64 g.p22]) ∧ Below w.heap.size w w' := by
  have e : k.tmod 6 = k % 6 := Int.tmod_eq_emod_of_nonneg k1
  have ha : k % 6 = 0 ∨ k % 6 = 1 ∨ k % 6 = 2 ∨ k % 6 = 3 ∨ k % 6 = 4 ∨ k % 6 = 5 := by omega
  have hb : k / 6 % 2 = 0 ∨ k / 6 % 2 = 1 := by omega
  have hc : k / 12 % 2 = 0 ∨ k / 12 % 2 = 1 := by omega
  rcases ha with ha | ha | ha | ha | ha | ha <;> rcases hb with hb | hb <;> rcases hc with hc | hc
  · exact ⟨sxM 0, sx_good 0 (by omega), fun w => sxn_0 k w k1 k2 hb hc (by rw [e]; exact ha)⟩
  · exact ⟨sxM 12, sx_good 12 (by omega), fun w => sxn_12 k w k1 k2 hb hc (by rw [e]; exact ha)⟩
  · exact ⟨sxM 6, sx_good 6 (by omega), fun w => sxn_6 k w k1 k2 hb hc (by rw [e]; exact ha)⟩
  · exact ⟨sxM 18, sx_good 18 (by omega), fun w => sxn_18 k w k1 k2 hb hc (by rw [e]; exact ha)⟩
  · exact ⟨sxM 1, sx_good 1 (by omega), fun w => sxn_1 k w k1 k2 hb hc (by rw [e]; exact ha)⟩
  · exact ⟨sxM 13, sx_good 13 (by omega), fun w => sxn_13 k w k1 k2 hb hc (by rw [e]; exact ha)⟩
  · exact ⟨sxM 7, sx_good 7 (by omega), fun w => sxn_7 k w k1 k2 hb hc (by rw [e]; exact ha)⟩
  · exact ⟨sxM 19, sx_good 19 (by omega), fun w => sxn_19 k w k1 k2 hb hc (by rw [e]; exact ha)⟩
  · exact ⟨sxM 2, sx_good 2 (by omega), fun w => sxn_2 k w k1 k2 hb hc (by rw [e]; exact ha)⟩
  · exact ⟨sxM 14, sx_good 14 (by omega), fun w => sxn_14 k w k1 k2 hb hc (by rw [e]; exact ha)⟩
  · exact ⟨sxM 8, sx_good 8 (by omega), fun w => sxn_8 k w k1 k2 hb hc (by rw [e]; exact ha)⟩
  · exact ⟨sxM 20, sx_good 20 (by omega), fun w => sxn_20 k w k1 k2 hb hc (by rw [e]; exact ha)⟩
  · exact ⟨sxM 3, sx_good 3 (by omega), fun w => sxn_3 k w k1 k2 hb hc (by rw [e]; exact ha)⟩
  · exact ⟨sxM 15, sx_good 15 (by omega), fun w => sxn_15 k w k1 k2 hb hc (by rw [e]; exact ha)⟩
  · exact ⟨sxM 9, sx_good 9 (by omega), fun w => sxn_9 k w k1 k2 hb hc (by rw [e]; exact ha)⟩
  · exact ⟨sxM 21, sx_good 21 (by omega), fun w => sxn_21 k w k1 k2 hb hc (by rw [e]; exact ha)⟩
  · exact ⟨sxM 4, sx_good 4 (by omega), fun w => sxn_4 k w k1 k2 hb hc (by rw [e]; exact ha)⟩
  · exact ⟨sxM 16, sx_good 16 (by omega), fun w => sxn_16 k w k1 k2 hb hc (by rw [e]; exact ha)⟩
  · exact ⟨sxM 10, sx_good 10 (by omega), fun w => sxn_10 k w k1 k2 hb hc (by rw [e]; exact ha)⟩
  · exact ⟨sxM 22, sx_good 22 (by omega), fun w => sxn_22 k w k1 k2 hb hc (by rw [e]; exact ha)⟩
  · exact ⟨sxM 5, sx_good 5 (by omega), fun w => sxn_5 k w k1 k2 hb hc (by rw [e]; exact ha)⟩
  · exact ⟨sxM 17, sx_good 17 (by omega), fun w => sxn_17 k w k1 k2 hb hc (by rw [e]; exact ha)⟩
  · exact ⟨sxM 11, sx_good 11 (by omega), fun w => sxn_11 k w k1 k2 hb hc (by rw [e]; exact ha)⟩
  · exact ⟨sxM 23, sx_good 23 (by omega), fun w => sxn_23 k w k1 k2 hb hc (by rw [e]; exact ha)⟩
end Go.Proofs.Ytjghhgapacnpeaa
