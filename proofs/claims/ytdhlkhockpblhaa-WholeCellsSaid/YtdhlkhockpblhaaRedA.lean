/-
  Small functions of layer 12: products of matrices and vectors, modulo 2^64.
-/
import Derived.Test.YtdhlkhockpblhaaBase
namespace Go.Proofs.Ytdhlkhockpblhaa
open Go.RowKit
attribute [local irreducible] World.setCell

set_option linter.unusedSimpArgs false
set_option linter.unusedVariables false

theorem wrap_add_l (x y : Int) : wrap64 (wrap64 x + y) = wrap64 (x + y) := by unfold wrap64; omega
theorem wrap_add_r (x y : Int) : wrap64 (x + wrap64 y) = wrap64 (x + y) := by unfold wrap64; omega
theorem wrap_sub_l (x y : Int) : wrap64 (wrap64 x - y) = wrap64 (x - y) := by unfold wrap64; omega
theorem wrap_sub_r (x y : Int) : wrap64 (x - wrap64 y) = wrap64 (x - y) := by unfold wrap64; omega
theorem wrap_neg (x : Int) : wrap64 (-wrap64 x) = wrap64 (-x) := by unfold wrap64; omega
theorem wrap_wrap (x : Int) : wrap64 (wrap64 x) = wrap64 x := by unfold wrap64; omega
theorem wrap_mod (x : Int) : ∃ k : Int, wrap64 x = x + 18446744073709551616 * k := ⟨-((x + 9223372036854775808) / 18446744073709551616), by unfold wrap64; omega⟩
theorem wrap_shift (x k : Int) : wrap64 (x + 18446744073709551616 * k) = wrap64 x := by unfold wrap64; omega
theorem wrap_mul_l (x y : Int) : wrap64 (wrap64 x * y) = wrap64 (x * y) := by
  obtain ⟨k, h⟩ := wrap_mod x
  rw [h, show (x + 18446744073709551616 * k) * y = x * y + 18446744073709551616 * (k * y) by grind, wrap_shift]
theorem wrap_mul_r (x y : Int) : wrap64 (x * wrap64 y) = wrap64 (x * y) := by rw [Int.mul_comm, wrap_mul_l, Int.mul_comm]

set_option maxHeartbeats 1600000 in
theorem dot_any (g00 g01 g02 g10 g11 g12 g20 g21 g22 u0 u1 u2 v0 v1 v2 : Int) (w : World) :
    Calls Try.prog 47 #[.agg #[.int .i64 g00, .int .i64 g01, .int .i64 g02, .int .i64 g10, .int .i64 g11, .int .i64 g12, .int .i64 g20, .int .i64 g21, .int .i64 g22], .agg #[.int .i64 u0, .int .i64 u1, .int .i64 u2], .agg #[.int .i64 v0, .int .i64 v1, .int .i64 v2]] w fun e w' => e = .returned (.int .i64 (wrap64 (u0 * g00 * v0 + u0 * g01 * v1 + u0 * g02 * v2 + u1 * g10 * v0 + u1 * g11 * v1 + u1 * g12 * v2 + u2 * g20 * v0 + u2 * g21 * v1 + u2 * g22 * v2))) ∧ Below w.heap.size w w' := by
  go_enter Try.func47, Try.ntmps47
  go_wp2
  refine wp_loop_rounds 4 ?_
  rw [rounds_succ]
  go_wp2
  refine wp_loop_rounds 4 ?_
  rw [rounds_succ]
  go_wp2
  go_quiet (fail)
  go_wp2
  rw [rounds_succ]
  go_wp2
  go_quiet (fail)
  go_wp2
  rw [rounds_succ]
  go_wp2
  go_quiet (fail)
  go_wp2
  rw [rounds_succ]
  go_wp2
  rw [rounds_succ]
  go_wp2
  refine wp_loop_rounds 4 ?_
  rw [rounds_succ]
  go_wp2
  go_quiet (fail)
  go_wp2
  rw [rounds_succ]
  go_wp2
  go_quiet (fail)
  go_wp2
  rw [rounds_succ]
  go_wp2
  go_quiet (fail)
  go_wp2
  rw [rounds_succ]
  go_wp2
  rw [rounds_succ]
  go_wp2
  refine wp_loop_rounds 4 ?_
  rw [rounds_succ]
  go_wp2
  go_quiet (fail)
  go_wp2
  rw [rounds_succ]
  go_wp2
  go_quiet (fail)
  go_wp2
  rw [rounds_succ]
  go_wp2
  go_quiet (fail)
  go_wp2
  rw [rounds_succ]
  go_wp2
  rw [rounds_succ]
  go_wp2
  go_ret
  refine ⟨ret_int ?_, ?_⟩
  · simp only [wrap_add_l, wrap_add_r, wrap_sub_l, wrap_sub_r, wrap_mul_l, wrap_mul_r, wrap_neg, wrap_wrap, Int.zero_add]
  · repeat (first | exact Below.refl _ _ | assumption | exact Below.alloc (Below.refl _ _) (Nat.le_refl _) _ | refine Below.setCell ?_ (by first | (simp; done) | (simp; omega) | omega) _ | refine below_drewN ?_ _ | refine Below.alloc ?_ (by first | (simp; done) | (simp; omega) | omega) _ | refine Below.trans ?_ (Below.mono (by assumption) (by first | (simp; done) | (simp; omega) | omega)))

theorem ret_mat {a00 a01 a02 a10 a11 a12 a20 a21 a22 b00 b01 b02 b10 b11 b12 b20 b21 b22 : Int} (h00 : a00 = b00) (h01 : a01 = b01) (h02 : a02 = b02) (h10 : a10 = b10) (h11 : a11 = b11) (h12 : a12 = b12) (h20 : a20 = b20) (h21 : a21 = b21) (h22 : a22 = b22) : Ending.returned (.agg #[.int .i64 a00, .int .i64 a01, .int .i64 a02, .int .i64 a10, .int .i64 a11, .int .i64 a12, .int .i64 a20, .int .i64 a21, .int .i64 a22]) = .returned (.agg #[.int .i64 b00, .int .i64 b01, .int .i64 b02, .int .i64 b10, .int .i64 b11, .int .i64 b12, .int .i64 b20, .int .i64 b21, .int .i64 b22]) := by rw [h00, h01, h02, h10, h11, h12, h20, h21, h22]
theorem region_headq {P : Program} {id : Nat} {Q : Exit → Act → World → Prop} {a : Act} {W : World} {l : List Oper} (n : Nat) (hm : P.follows .mixedOrders = true) (hB : Region.lexTailB .any l.toArray n = true)
    (h : wpQuiet P l.toArray (fun w' => ∃ k, w' = W.drewN k) (fun a' => ∀ w', (∃ k, w' = W.drewN k) → wpList P l.toArray Q (l.drop n) a' w') (l.take n) a) : (Code.region id l.toArray true).wp P Q a W :=
  wp_region_quiet_tail (C := fun w' => ∃ k, w' = W.drewN k) n hm hB ⟨1, rfl⟩ h

end Go.Proofs.Ytdhlkhockpblhaa
