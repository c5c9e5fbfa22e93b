/-
  patterson: within, sides.
-/
import Derived.Test.YtjghhgapacnpeaaMatK6
namespace Go.Proofs.Ytjghhgapacnpeaa
open Go.RowKit Go.Lib
attribute [local irreducible] World.setCell
set_option linter.unusedSimpArgs false
set_option linter.unusedVariables false


theorem tmod_pos (a n : Int) (h : 0 < n) : ((a.tmod n) + n).tmod n = a % n := by
  have t1 := Int.lt_tmod_of_pos a h
  have e0 : (a.tmod n) % n = a % n := by
    have hh := Int.mul_tdiv_add_tmod a n
    have h2 := Int.add_mul_emod_self_left (a.tmod n) n (a.tdiv n)
    rw [← h2, Int.add_comm, hh]
  rw [Int.tmod_eq_emod_of_nonneg (by omega), Int.add_emod_right, e0]
set_option maxHeartbeats 4000000 in
set_option maxRecDepth 100000 in
theorem within_any (n0 n1 n2 : Nat) (a b c : Int) (w : World) (h0 : 0 < n0 ∧ n0 ≤ 192) (h1 : 0 < n1 ∧ n1 ≤ 192) (h2 : 0 < n2 ∧ n2 ≤ 192) : Calls Try.prog 39 #[.agg #[.int .i64 n0, .int .i64 n1, .int .i64 n2], .agg #[.int .i64 a, .int .i64 b, .int .i64 c]] w fun e w' => e = .returned (.agg #[.int .i64 (a % n0), .int .i64 (b % n1), .int .i64 (c % n2)]) ∧ Below w.heap.size w w' := by
  have k0 : (1 : Int) ≤ n0 ∧ (n0 : Int) ≤ 192 := by omega
  have k1 : (1 : Int) ≤ n1 ∧ (n1 : Int) ≤ 192 := by omega
  have k2 : (1 : Int) ≤ n2 ∧ (n2 : Int) ≤ 192 := by omega
  have za : ¬ n0 = 0 := by omega
  have zb : ¬ n1 = 0 := by omega
  have zc : ¬ n2 = 0 := by omega
  have ta := tmod_pos a n0 (by omega); have tb := tmod_pos b n1 (by omega); have tc := tmod_pos c n2 (by omega)
  have la := Int.lt_tmod_of_pos a (show (0 : Int) < n0 by omega); have lb := Int.lt_tmod_of_pos b (show (0 : Int) < n1 by omega); have lc := Int.lt_tmod_of_pos c (show (0 : Int) < n2 by omega)
  have ua := Int.tmod_lt_of_pos a (show (0 : Int) < n0 by omega); have ub := Int.tmod_lt_of_pos b (show (0 : Int) < n1 by omega); have uc := Int.tmod_lt_of_pos c (show (0 : Int) < n2 by omega)
  obtain ⟨qa, ea⟩ : ∃ q, a.tmod n0 = q := ⟨_, rfl⟩
  obtain ⟨qb, eb⟩ : ∃ q, b.tmod n1 = q := ⟨_, rfl⟩
  obtain ⟨qc, ec⟩ : ∃ q, c.tmod n2 = q := ⟨_, rfl⟩
  rw [ea] at ta la ua
  rw [eb] at tb lb ub
  rw [ec] at tc lc uc
  clear h0 h1 h2
  obtain ⟨k00, k01⟩ := k0; obtain ⟨k10, k11⟩ := k1; obtain ⟨k20, k21⟩ := k2
  go_enter Try.func39, Try.ntmps39
  go_wp2
  refine wp_loop_rounds 4 ?_
  rw [rounds_succ]
  go_wp2
  refine region_headq 17 (by kernel_rfl) (by kernel_rfl) ?_
  simp only [List.take_succ_cons, List.take_zero, List.drop_succ_cons, List.drop_zero]
  repeat (go_big_quiet_step (fail))
  refine wpQuiet_nil ?_
  rintro _ ⟨nq, rfl⟩
  go_wp2
  rw [rounds_succ]
  go_wp2
  refine region_headq 17 (by kernel_rfl) (by kernel_rfl) ?_
  simp only [List.take_succ_cons, List.take_zero, List.drop_succ_cons, List.drop_zero]
  repeat (go_big_quiet_step (fail))
  refine wpQuiet_nil ?_
  rintro _ ⟨nq, rfl⟩
  go_wp2
  rw [rounds_succ]
  go_wp2
  refine region_headq 17 (by kernel_rfl) (by kernel_rfl) ?_
  simp only [List.take_succ_cons, List.take_zero, List.drop_succ_cons, List.drop_zero]
  repeat (go_big_quiet_step (fail))
  refine wpQuiet_nil ?_
  rintro _ ⟨nq, rfl⟩
  go_wp2
  rw [rounds_succ]
  go_wp2
  refine bodyPost_ret (v := .agg #[.int .i64 (a % n0), .int .i64 (b % n1), .int .i64 (c % n2)]) (by simp [results, Try.results39, go_sem, *]) rfl ⟨rfl, (by repeat (first | assumption | exact Below.refl _ _ | refine below_drewN ?_ _ | refine Below.drew ?_ | refine Below.alloc ?_ (by first | (simp; done) | (simp; omega) | omega) _ | refine Below.setCell ?_ (by first | (simp; done) | (simp; omega) | omega) _))⟩

end Go.Proofs.Ytjghhgapacnpeaa
