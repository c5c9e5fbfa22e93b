/-
  patterson: sides.
-/
import Derived.Test.YtjghhgapacnpeaaMatK7
namespace Go.Proofs.Ytjghhgapacnpeaa
open Go.RowKit Go.Lib
attribute [local irreducible] World.setCell
set_option linter.unusedSimpArgs false
set_option linter.unusedVariables false


set_option maxHeartbeats 4000000 in
set_option maxRecDepth 100000 in
theorem sides_any (n0 n1 n2 : Nat) (w : World) (h0 : 0 < n0 ∧ n0 ≤ 192) (h1 : 0 < n1 ∧ n1 ≤ 192) (h2 : 0 < n2 ∧ n2 ≤ 192) (hp : n0 * n1 * n2 ≤ 262144) : Calls Try.prog 31 #[.agg #[.int .i64 n0, .int .i64 n1, .int .i64 n2], .bool false] w fun e w' => e = .returned (.int .i64 0) ∧ Below w.heap.size w w' := by
  have k0 : (1 : Int) ≤ n0 ∧ (n0 : Int) ≤ 192 := by omega
  have k1 : (1 : Int) ≤ n1 ∧ (n1 : Int) ≤ 192 := by omega
  have k2 : (1 : Int) ≤ n2 ∧ (n2 : Int) ≤ 192 := by omega
  have pb : n0 * n1 ≤ 36864 := Nat.mul_le_mul h0.2 h1.2
  obtain ⟨q, eq⟩ : ∃ q, q = n0 * n1 := ⟨_, rfl⟩
  obtain ⟨L, eL⟩ : ∃ q, q = n0 * n1 * n2 := ⟨_, rfl⟩
  have hq := congrArg (Value.int IntKind.i64) (show wrap64 ((n0 : Int) * (n1 : Int)) = (q : Int) by rw [eq, Int.natCast_mul]; exact wrap_id _ (by rw [← Int.natCast_mul]; omega) (by rw [← Int.natCast_mul]; omega))
  have hL := congrArg (Value.int IntKind.i64) (show wrap64 ((q : Int) * (n2 : Int)) = (L : Int) by rw [eL, eq, Int.natCast_mul]; exact wrap_id _ (by rw [← Int.natCast_mul]; omega) (by rw [← Int.natCast_mul]; omega))
  have hl : (L : Int) ≤ 262144 := by omega
  clear h0 h1 h2 pb eq eL hp
  obtain ⟨k00, k01⟩ := k0; obtain ⟨k10, k11⟩ := k1; obtain ⟨k20, k21⟩ := k2
  have i0 : ∀ w, (Instr.index 30 (.agg #[.int .i64 n0, .int .i64 n1, .int .i64 n2]) (.int .i64 0)).run Try.prog w = .ok (.int .i64 n0) w := fun _ => by kernel_rfl
  have i1 : ∀ w, (Instr.index 30 (.agg #[.int .i64 n0, .int .i64 n1, .int .i64 n2]) (.int .i64 1)).run Try.prog w = .ok (.int .i64 n1) w := fun _ => by kernel_rfl
  have i2 : ∀ w, (Instr.index 30 (.agg #[.int .i64 n0, .int .i64 n1, .int .i64 n2]) (.int .i64 2)).run Try.prog w = .ok (.int .i64 n2) w := fun _ => by kernel_rfl
  go_enter Try.func31, Try.ntmps31
  go_wp2
  refine wp_loop_rounds 4 ?_
  rw [rounds_succ]
  go_wp2
  rw [rounds_succ]
  go_wp2
  rw [rounds_succ]
  go_wp2
  rw [rounds_succ]
  go_wp2
  go_ret
  exact ⟨rfl, (by repeat (first | assumption | exact Below.refl _ _ | refine below_drewN ?_ _ | refine Below.drew ?_ | refine Below.alloc ?_ (by first | (simp; done) | (simp; omega) | omega) _ | refine Below.setCell ?_ (by first | (simp; done) | (simp; omega) | omega) _))⟩

end Go.Proofs.Ytjghhgapacnpeaa
