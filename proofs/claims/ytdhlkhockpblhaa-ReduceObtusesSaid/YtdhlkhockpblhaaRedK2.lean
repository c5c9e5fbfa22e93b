/-
  DocShortest: rounding, edges added, whether one is shorter.
-/
import Derived.Test.YtdhlkhockpblhaaRedK1
import Derived.Test.YtdhlkhockpblhaaRedU
namespace Go.Proofs.Ytdhlkhockpblhaa
open Go.RowKit
attribute [local irreducible] World.setCell

set_option linter.unusedSimpArgs false
set_option linter.unusedVariables false

theorem floor_tdiv {N D : Int} (hD : 0 < D) : (N.tmod D ≠ 0 ∧ N < 0 → N.tdiv D - 1 = N / D) ∧ (¬ (N.tmod D ≠ 0 ∧ N < 0) → N.tdiv D = N / D) := by
  have e := Int.tdiv_eq_ediv (a := N) (b := D)
  have s := Int.sign_eq_one_of_pos hD
  rw [s] at e
  refine ⟨fun h => ?_, fun h => ?_⟩
  · have hnd : ¬ (0 ≤ N ∨ D ∣ N) := by
      rintro (q | q)
      · omega
      · exact h.1 (Int.tmod_eq_zero_of_dvd q)
    rw [if_neg hnd] at e
    omega
  · have hd : 0 ≤ N ∨ D ∣ N := by
      rcases Int.lt_or_le N 0 with q | q
      · rcases Classical.em (N.tmod D = 0) with z | z
        · exact Or.inr (Int.dvd_of_tmod_eq_zero z)
        · exact absurd ⟨z, q⟩ h
      · exact Or.inl q
    rw [if_pos hd] at e
    omega
set_option maxHeartbeats 1600000 in
theorem round_c (a b r : Int) (w : World) (hb : 0 < b) (ha : -1000000000 ≤ a ∧ a ≤ 1000000000) (hbb : b ≤ 1000000000) (hr : (2 * a + b) / (2 * b) = r):
    Calls Try.prog 48 #[.int .i64 a, .int .i64 b] w fun e w' => e = .returned (.int .i64 r) ∧ Below w.heap.size w w' := by
  have hN : wrap64 (2 * a) = 2 * a := wrapE (by omega) (by omega)
  have hN2 : wrap64 (2 * a + b) = 2 * a + b := wrapE (by omega) (by omega)
  have hD : wrap64 (2 * b) = 2 * b := wrapE (by omega) (by omega)
  have hf := floor_tdiv (N := 2 * a + b) (D := 2 * b) (by omega)
  rw [hr] at hf
  have hb0 : (2 * b == 0) = false := by simp; omega
  have hb1 : ¬ (2 * b = 0) := by omega
  have hb2 : ¬ (2 * b = -1) := by omega
  have hq : -4611686018427387904 ≤ (2 * a + b).tdiv (2 * b) ∧ (2 * a + b).tdiv (2 * b) ≤ 4611686018427387904 := by
    have h1 := Int.natAbs_tdiv_le_natAbs (2 * a + b) (2 * b)
    omega
  have hw : wrap64 ((2 * a + b).tdiv (2 * b)) = (2 * a + b).tdiv (2 * b) := wrapE (by omega) (by omega)
  have hw1 : wrap64 ((2 * a + b).tdiv (2 * b) - 1) = (2 * a + b).tdiv (2 * b) - 1 := wrapE (by omega) (by omega)
  rcases Classical.em ((2 * a + b).tmod (2 * b) = 0) with hm | hm
  · have hr2 := hf.2 (fun q => q.1 hm)
    have hR := Lib.hid hr2; clear hf hr2 hr
    go_enter Try.func48, Try.ntmps48
    go_wp2
    all_goals go_ret
    all_goals refine ⟨ret_int (hR.out), ?_⟩
    all_goals (repeat (first | exact Below.refl _ _ | assumption | exact Below.alloc (Below.refl _ _) (Nat.le_refl _) _ | refine Below.setCell ?_ (by first | (simp; done) | (simp; omega) | omega) _ | refine below_drewN ?_ _ | refine Below.alloc ?_ (by first | (simp; done) | (simp; omega) | omega) _ | refine Below.trans ?_ (Below.mono (by assumption) (by first | (simp; done) | (simp; omega) | omega))))
  · have hm1 : ((2 * a + b).tmod (2 * b) == 0) = false := by rw [beq_eq_false_iff_ne]; exact hm
    rcases Int.lt_or_le (2 * a + b) 0 with hn | hn
    · have hr2 := hf.1 ⟨hm, hn⟩
      have hn1 : decide (2 * a + b < 0) = true := decide_eq_true hn
      have hR := Lib.hid hr2; clear hf hr2 hr
      go_enter Try.func48, Try.ntmps48
      go_wp2
      all_goals go_ret
      all_goals refine ⟨ret_int (hR.out), ?_⟩
      all_goals (repeat (first | exact Below.refl _ _ | assumption | exact Below.alloc (Below.refl _ _) (Nat.le_refl _) _ | refine Below.setCell ?_ (by first | (simp; done) | (simp; omega) | omega) _ | refine below_drewN ?_ _ | refine Below.alloc ?_ (by first | (simp; done) | (simp; omega) | omega) _ | refine Below.trans ?_ (Below.mono (by assumption) (by first | (simp; done) | (simp; omega) | omega))))
    · have hr2 := hf.2 (fun q => absurd q.2 (by omega))
      have hn1 : decide (2 * a + b < 0) = false := decide_eq_false (by omega)
      have hR := Lib.hid hr2; clear hf hr2 hr
      go_enter Try.func48, Try.ntmps48
      go_wp2
      all_goals go_ret
      all_goals refine ⟨ret_int (hR.out), ?_⟩
      all_goals (repeat (first | exact Below.refl _ _ | assumption | exact Below.alloc (Below.refl _ _) (Nat.le_refl _) _ | refine Below.setCell ?_ (by first | (simp; done) | (simp; omega) | omega) _ | refine below_drewN ?_ _ | refine Below.alloc ?_ (by first | (simp; done) | (simp; omega) | omega) _ | refine Below.trans ?_ (Below.mono (by assumption) (by first | (simp; done) | (simp; omega) | omega))))

set_option maxHeartbeats 1600000 in
set_option maxRecDepth 100000 in
theorem added_01 (m : Met) (n : Int) (w : World) :
    Calls Try.prog 50 #[.agg #[.int .i64 m.aa, .int .i64 m.ab, .int .i64 m.ac, .int .i64 m.ab, .int .i64 m.bb, .int .i64 m.bc, .int .i64 m.ac, .int .i64 m.bc, .int .i64 m.cc], .int .i64 0, .int .i64 1, .int .i64 n] w fun e w' => e = .returned (.agg #[.int .i64 ((aw01 n m).aa), .int .i64 ((aw01 n m).ab), .int .i64 ((aw01 n m).ac), .int .i64 ((aw01 n m).ab), .int .i64 ((aw01 n m).bb), .int .i64 ((aw01 n m).bc), .int .i64 ((aw01 n m).ac), .int .i64 ((aw01 n m).bc), .int .i64 ((aw01 n m).cc)]) ∧ Below w.heap.size w w' := by
  go_enter Try.func50, Try.ntmps50
  go_wp2
  refine wp_loop_rounds 4 ?_
  rw [rounds_succ]
  go_wp2
  refine region_headq 15 (by kernel_rfl) (by kernel_rfl) ?_
  simp only [List.take_succ_cons, List.take_zero, List.drop_succ_cons, List.drop_zero]
  repeat (go_big_quiet_step (fail))
  refine wpQuiet_nil ?_
  rintro _ ⟨nq, rfl⟩
  go_wp2
  rw [rounds_succ]
  go_wp2
  refine region_headq 15 (by kernel_rfl) (by kernel_rfl) ?_
  simp only [List.take_succ_cons, List.take_zero, List.drop_succ_cons, List.drop_zero]
  repeat (go_big_quiet_step (fail))
  refine wpQuiet_nil ?_
  rintro _ ⟨nq, rfl⟩
  go_wp2
  rw [rounds_succ]
  go_wp2
  refine region_headq 15 (by kernel_rfl) (by kernel_rfl) ?_
  simp only [List.take_succ_cons, List.take_zero, List.drop_succ_cons, List.drop_zero]
  repeat (go_big_quiet_step (fail))
  refine wpQuiet_nil ?_
  rintro _ ⟨nq, rfl⟩
  go_wp2
  rw [rounds_succ]
  go_wp2
  refine wp_loop_rounds 4 ?_
  rw [rounds_succ]
  go_wp2
  refine region_headq 15 (by kernel_rfl) (by kernel_rfl) ?_
  simp only [List.take_succ_cons, List.take_zero, List.drop_succ_cons, List.drop_zero]
  repeat (go_big_quiet_step (fail))
  refine wpQuiet_nil ?_
  rintro _ ⟨nq, rfl⟩
  go_wp2
  rw [rounds_succ]
  go_wp2
  refine region_headq 15 (by kernel_rfl) (by kernel_rfl) ?_
  simp only [List.take_succ_cons, List.take_zero, List.drop_succ_cons, List.drop_zero]
  repeat (go_big_quiet_step (fail))
  refine wpQuiet_nil ?_
  rintro _ ⟨nq, rfl⟩
  go_wp2
  rw [rounds_succ]
  go_wp2
  refine region_headq 15 (by kernel_rfl) (by kernel_rfl) ?_
  simp only [List.take_succ_cons, List.take_zero, List.drop_succ_cons, List.drop_zero]
  repeat (go_big_quiet_step (fail))
  refine wpQuiet_nil ?_
  rintro _ ⟨nq, rfl⟩
  go_wp2
  rw [rounds_succ]
  go_wp2
  refine bodyPost_ret (v := .agg #[.int .i64 (wrap64 (m.aa + n * m.ab + n * (m.ab + n * m.bb))), .int .i64 (wrap64 (m.ab + n * m.bb)), .int .i64 (wrap64 (m.ac + n * m.bc)), .int .i64 (wrap64 (m.ab + n * m.bb)), .int .i64 m.bb, .int .i64 m.bc, .int .i64 (wrap64 (m.ac + n * m.bc)), .int .i64 m.bc, .int .i64 m.cc]) (by simp [results, Try.results50, go_sem, wrap_add_l, wrap_add_r, wrap_sub_l, wrap_sub_r, wrap_mul_l, wrap_mul_r, wrap_neg, wrap_wrap, wrap3, *]) rfl ⟨rfl, ?_⟩
  repeat (first | exact Below.refl _ _ | assumption | exact Below.alloc (Below.refl _ _) (Nat.le_refl _) _ | refine Below.setCell ?_ (by first | (simp; done) | (simp; omega) | omega) _ | refine below_drewN ?_ _ | refine Below.alloc ?_ (by first | (simp; done) | (simp; omega) | omega) _ | refine Below.trans ?_ (Below.mono (by assumption) (by first | (simp; done) | (simp; omega) | omega)))

set_option maxHeartbeats 1600000 in
set_option maxRecDepth 100000 in
theorem added_02 (m : Met) (n : Int) (w : World) :
    Calls Try.prog 50 #[.agg #[.int .i64 m.aa, .int .i64 m.ab, .int .i64 m.ac, .int .i64 m.ab, .int .i64 m.bb, .int .i64 m.bc, .int .i64 m.ac, .int .i64 m.bc, .int .i64 m.cc], .int .i64 0, .int .i64 2, .int .i64 n] w fun e w' => e = .returned (.agg #[.int .i64 ((aw02 n m).aa), .int .i64 ((aw02 n m).ab), .int .i64 ((aw02 n m).ac), .int .i64 ((aw02 n m).ab), .int .i64 ((aw02 n m).bb), .int .i64 ((aw02 n m).bc), .int .i64 ((aw02 n m).ac), .int .i64 ((aw02 n m).bc), .int .i64 ((aw02 n m).cc)]) ∧ Below w.heap.size w w' := by
  go_enter Try.func50, Try.ntmps50
  go_wp2
  refine wp_loop_rounds 4 ?_
  rw [rounds_succ]
  go_wp2
  refine region_headq 15 (by kernel_rfl) (by kernel_rfl) ?_
  simp only [List.take_succ_cons, List.take_zero, List.drop_succ_cons, List.drop_zero]
  repeat (go_big_quiet_step (fail))
  refine wpQuiet_nil ?_
  rintro _ ⟨nq, rfl⟩
  go_wp2
  rw [rounds_succ]
  go_wp2
  refine region_headq 15 (by kernel_rfl) (by kernel_rfl) ?_
  simp only [List.take_succ_cons, List.take_zero, List.drop_succ_cons, List.drop_zero]
  repeat (go_big_quiet_step (fail))
  refine wpQuiet_nil ?_
  rintro _ ⟨nq, rfl⟩
  go_wp2
  rw [rounds_succ]
  go_wp2
  refine region_headq 15 (by kernel_rfl) (by kernel_rfl) ?_
  simp only [List.take_succ_cons, List.take_zero, List.drop_succ_cons, List.drop_zero]
  repeat (go_big_quiet_step (fail))
  refine wpQuiet_nil ?_
  rintro _ ⟨nq, rfl⟩
  go_wp2
  rw [rounds_succ]
  go_wp2
  refine wp_loop_rounds 4 ?_
  rw [rounds_succ]
  go_wp2
  refine region_headq 15 (by kernel_rfl) (by kernel_rfl) ?_
  simp only [List.take_succ_cons, List.take_zero, List.drop_succ_cons, List.drop_zero]
  repeat (go_big_quiet_step (fail))
  refine wpQuiet_nil ?_
  rintro _ ⟨nq, rfl⟩
  go_wp2
  rw [rounds_succ]
  go_wp2
  refine region_headq 15 (by kernel_rfl) (by kernel_rfl) ?_
  simp only [List.take_succ_cons, List.take_zero, List.drop_succ_cons, List.drop_zero]
  repeat (go_big_quiet_step (fail))
  refine wpQuiet_nil ?_
  rintro _ ⟨nq, rfl⟩
  go_wp2
  rw [rounds_succ]
  go_wp2
  refine region_headq 15 (by kernel_rfl) (by kernel_rfl) ?_
  simp only [List.take_succ_cons, List.take_zero, List.drop_succ_cons, List.drop_zero]
  repeat (go_big_quiet_step (fail))
  refine wpQuiet_nil ?_
  rintro _ ⟨nq, rfl⟩
  go_wp2
  rw [rounds_succ]
  go_wp2
  refine bodyPost_ret (v := .agg #[.int .i64 (wrap64 (m.aa + n * m.ac + n * (m.ac + n * m.cc))), .int .i64 (wrap64 (m.ab + n * m.bc)), .int .i64 (wrap64 (m.ac + n * m.cc)), .int .i64 (wrap64 (m.ab + n * m.bc)), .int .i64 m.bb, .int .i64 m.bc, .int .i64 (wrap64 (m.ac + n * m.cc)), .int .i64 m.bc, .int .i64 m.cc]) (by simp [results, Try.results50, go_sem, wrap_add_l, wrap_add_r, wrap_sub_l, wrap_sub_r, wrap_mul_l, wrap_mul_r, wrap_neg, wrap_wrap, wrap3, *]) rfl ⟨rfl, ?_⟩
  repeat (first | exact Below.refl _ _ | assumption | exact Below.alloc (Below.refl _ _) (Nat.le_refl _) _ | refine Below.setCell ?_ (by first | (simp; done) | (simp; omega) | omega) _ | refine below_drewN ?_ _ | refine Below.alloc ?_ (by first | (simp; done) | (simp; omega) | omega) _ | refine Below.trans ?_ (Below.mono (by assumption) (by first | (simp; done) | (simp; omega) | omega)))

set_option maxHeartbeats 1600000 in
set_option maxRecDepth 100000 in
theorem added_10 (m : Met) (n : Int) (w : World) :
    Calls Try.prog 50 #[.agg #[.int .i64 m.aa, .int .i64 m.ab, .int .i64 m.ac, .int .i64 m.ab, .int .i64 m.bb, .int .i64 m.bc, .int .i64 m.ac, .int .i64 m.bc, .int .i64 m.cc], .int .i64 1, .int .i64 0, .int .i64 n] w fun e w' => e = .returned (.agg #[.int .i64 ((aw10 n m).aa), .int .i64 ((aw10 n m).ab), .int .i64 ((aw10 n m).ac), .int .i64 ((aw10 n m).ab), .int .i64 ((aw10 n m).bb), .int .i64 ((aw10 n m).bc), .int .i64 ((aw10 n m).ac), .int .i64 ((aw10 n m).bc), .int .i64 ((aw10 n m).cc)]) ∧ Below w.heap.size w w' := by
  go_enter Try.func50, Try.ntmps50
  go_wp2
  refine wp_loop_rounds 4 ?_
  rw [rounds_succ]
  go_wp2
  refine region_headq 15 (by kernel_rfl) (by kernel_rfl) ?_
  simp only [List.take_succ_cons, List.take_zero, List.drop_succ_cons, List.drop_zero]
  repeat (go_big_quiet_step (fail))
  refine wpQuiet_nil ?_
  rintro _ ⟨nq, rfl⟩
  go_wp2
  rw [rounds_succ]
  go_wp2
  refine region_headq 15 (by kernel_rfl) (by kernel_rfl) ?_
  simp only [List.take_succ_cons, List.take_zero, List.drop_succ_cons, List.drop_zero]
  repeat (go_big_quiet_step (fail))
  refine wpQuiet_nil ?_
  rintro _ ⟨nq, rfl⟩
  go_wp2
  rw [rounds_succ]
  go_wp2
  refine region_headq 15 (by kernel_rfl) (by kernel_rfl) ?_
  simp only [List.take_succ_cons, List.take_zero, List.drop_succ_cons, List.drop_zero]
  repeat (go_big_quiet_step (fail))
  refine wpQuiet_nil ?_
  rintro _ ⟨nq, rfl⟩
  go_wp2
  rw [rounds_succ]
  go_wp2
  refine wp_loop_rounds 4 ?_
  rw [rounds_succ]
  go_wp2
  refine region_headq 15 (by kernel_rfl) (by kernel_rfl) ?_
  simp only [List.take_succ_cons, List.take_zero, List.drop_succ_cons, List.drop_zero]
  repeat (go_big_quiet_step (fail))
  refine wpQuiet_nil ?_
  rintro _ ⟨nq, rfl⟩
  go_wp2
  rw [rounds_succ]
  go_wp2
  refine region_headq 15 (by kernel_rfl) (by kernel_rfl) ?_
  simp only [List.take_succ_cons, List.take_zero, List.drop_succ_cons, List.drop_zero]
  repeat (go_big_quiet_step (fail))
  refine wpQuiet_nil ?_
  rintro _ ⟨nq, rfl⟩
  go_wp2
  rw [rounds_succ]
  go_wp2
  refine region_headq 15 (by kernel_rfl) (by kernel_rfl) ?_
  simp only [List.take_succ_cons, List.take_zero, List.drop_succ_cons, List.drop_zero]
  repeat (go_big_quiet_step (fail))
  refine wpQuiet_nil ?_
  rintro _ ⟨nq, rfl⟩
  go_wp2
  rw [rounds_succ]
  go_wp2
  refine bodyPost_ret (v := .agg #[.int .i64 m.aa, .int .i64 (wrap64 (m.ab + n * m.aa)), .int .i64 m.ac, .int .i64 (wrap64 (m.ab + n * m.aa)), .int .i64 (wrap64 (m.bb + n * m.ab + n * (m.ab + n * m.aa))), .int .i64 (wrap64 (m.bc + n * m.ac)), .int .i64 m.ac, .int .i64 (wrap64 (m.bc + n * m.ac)), .int .i64 m.cc]) (by simp [results, Try.results50, go_sem, wrap_add_l, wrap_add_r, wrap_sub_l, wrap_sub_r, wrap_mul_l, wrap_mul_r, wrap_neg, wrap_wrap, wrap3, *]) rfl ⟨rfl, ?_⟩
  repeat (first | exact Below.refl _ _ | assumption | exact Below.alloc (Below.refl _ _) (Nat.le_refl _) _ | refine Below.setCell ?_ (by first | (simp; done) | (simp; omega) | omega) _ | refine below_drewN ?_ _ | refine Below.alloc ?_ (by first | (simp; done) | (simp; omega) | omega) _ | refine Below.trans ?_ (Below.mono (by assumption) (by first | (simp; done) | (simp; omega) | omega)))

set_option maxHeartbeats 1600000 in
set_option maxRecDepth 100000 in
theorem added_12 (m : Met) (n : Int) (w : World) :
    Calls Try.prog 50 #[.agg #[.int .i64 m.aa, .int .i64 m.ab, .int .i64 m.ac, .int .i64 m.ab, .int .i64 m.bb, .int .i64 m.bc, .int .i64 m.ac, .int .i64 m.bc, .int .i64 m.cc], .int .i64 1, .int .i64 2, .int .i64 n] w fun e w' => e = .returned (.agg #[.int .i64 ((aw12 n m).aa), .int .i64 ((aw12 n m).ab), .int .i64 ((aw12 n m).ac), .int .i64 ((aw12 n m).ab), .int .i64 ((aw12 n m).bb), .int .i64 ((aw12 n m).bc), .int .i64 ((aw12 n m).ac), .int .i64 ((aw12 n m).bc), .int .i64 ((aw12 n m).cc)]) ∧ Below w.heap.size w w' := by
  go_enter Try.func50, Try.ntmps50
  go_wp2
  refine wp_loop_rounds 4 ?_
  rw [rounds_succ]
  go_wp2
  refine region_headq 15 (by kernel_rfl) (by kernel_rfl) ?_
  simp only [List.take_succ_cons, List.take_zero, List.drop_succ_cons, List.drop_zero]
  repeat (go_big_quiet_step (fail))
  refine wpQuiet_nil ?_
  rintro _ ⟨nq, rfl⟩
  go_wp2
  rw [rounds_succ]
  go_wp2
  refine region_headq 15 (by kernel_rfl) (by kernel_rfl) ?_
  simp only [List.take_succ_cons, List.take_zero, List.drop_succ_cons, List.drop_zero]
  repeat (go_big_quiet_step (fail))
  refine wpQuiet_nil ?_
  rintro _ ⟨nq, rfl⟩
  go_wp2
  rw [rounds_succ]
  go_wp2
  refine region_headq 15 (by kernel_rfl) (by kernel_rfl) ?_
  simp only [List.take_succ_cons, List.take_zero, List.drop_succ_cons, List.drop_zero]
  repeat (go_big_quiet_step (fail))
  refine wpQuiet_nil ?_
  rintro _ ⟨nq, rfl⟩
  go_wp2
  rw [rounds_succ]
  go_wp2
  refine wp_loop_rounds 4 ?_
  rw [rounds_succ]
  go_wp2
  refine region_headq 15 (by kernel_rfl) (by kernel_rfl) ?_
  simp only [List.take_succ_cons, List.take_zero, List.drop_succ_cons, List.drop_zero]
  repeat (go_big_quiet_step (fail))
  refine wpQuiet_nil ?_
  rintro _ ⟨nq, rfl⟩
  go_wp2
  rw [rounds_succ]
  go_wp2
  refine region_headq 15 (by kernel_rfl) (by kernel_rfl) ?_
  simp only [List.take_succ_cons, List.take_zero, List.drop_succ_cons, List.drop_zero]
  repeat (go_big_quiet_step (fail))
  refine wpQuiet_nil ?_
  rintro _ ⟨nq, rfl⟩
  go_wp2
  rw [rounds_succ]
  go_wp2
  refine region_headq 15 (by kernel_rfl) (by kernel_rfl) ?_
  simp only [List.take_succ_cons, List.take_zero, List.drop_succ_cons, List.drop_zero]
  repeat (go_big_quiet_step (fail))
  refine wpQuiet_nil ?_
  rintro _ ⟨nq, rfl⟩
  go_wp2
  rw [rounds_succ]
  go_wp2
  refine bodyPost_ret (v := .agg #[.int .i64 m.aa, .int .i64 (wrap64 (m.ab + n * m.ac)), .int .i64 m.ac, .int .i64 (wrap64 (m.ab + n * m.ac)), .int .i64 (wrap64 (m.bb + n * m.bc + n * (m.bc + n * m.cc))), .int .i64 (wrap64 (m.bc + n * m.cc)), .int .i64 m.ac, .int .i64 (wrap64 (m.bc + n * m.cc)), .int .i64 m.cc]) (by simp [results, Try.results50, go_sem, wrap_add_l, wrap_add_r, wrap_sub_l, wrap_sub_r, wrap_mul_l, wrap_mul_r, wrap_neg, wrap_wrap, wrap3, *]) rfl ⟨rfl, ?_⟩
  repeat (first | exact Below.refl _ _ | assumption | exact Below.alloc (Below.refl _ _) (Nat.le_refl _) _ | refine Below.setCell ?_ (by first | (simp; done) | (simp; omega) | omega) _ | refine below_drewN ?_ _ | refine Below.alloc ?_ (by first | (simp; done) | (simp; omega) | omega) _ | refine Below.trans ?_ (Below.mono (by assumption) (by first | (simp; done) | (simp; omega) | omega)))

set_option maxHeartbeats 1600000 in
set_option maxRecDepth 100000 in
theorem added_20 (m : Met) (n : Int) (w : World) :
    Calls Try.prog 50 #[.agg #[.int .i64 m.aa, .int .i64 m.ab, .int .i64 m.ac, .int .i64 m.ab, .int .i64 m.bb, .int .i64 m.bc, .int .i64 m.ac, .int .i64 m.bc, .int .i64 m.cc], .int .i64 2, .int .i64 0, .int .i64 n] w fun e w' => e = .returned (.agg #[.int .i64 ((aw20 n m).aa), .int .i64 ((aw20 n m).ab), .int .i64 ((aw20 n m).ac), .int .i64 ((aw20 n m).ab), .int .i64 ((aw20 n m).bb), .int .i64 ((aw20 n m).bc), .int .i64 ((aw20 n m).ac), .int .i64 ((aw20 n m).bc), .int .i64 ((aw20 n m).cc)]) ∧ Below w.heap.size w w' := by
  go_enter Try.func50, Try.ntmps50
  go_wp2
  refine wp_loop_rounds 4 ?_
  rw [rounds_succ]
  go_wp2
  refine region_headq 15 (by kernel_rfl) (by kernel_rfl) ?_
  simp only [List.take_succ_cons, List.take_zero, List.drop_succ_cons, List.drop_zero]
  repeat (go_big_quiet_step (fail))
  refine wpQuiet_nil ?_
  rintro _ ⟨nq, rfl⟩
  go_wp2
  rw [rounds_succ]
  go_wp2
  refine region_headq 15 (by kernel_rfl) (by kernel_rfl) ?_
  simp only [List.take_succ_cons, List.take_zero, List.drop_succ_cons, List.drop_zero]
  repeat (go_big_quiet_step (fail))
  refine wpQuiet_nil ?_
  rintro _ ⟨nq, rfl⟩
  go_wp2
  rw [rounds_succ]
  go_wp2
  refine region_headq 15 (by kernel_rfl) (by kernel_rfl) ?_
  simp only [List.take_succ_cons, List.take_zero, List.drop_succ_cons, List.drop_zero]
  repeat (go_big_quiet_step (fail))
  refine wpQuiet_nil ?_
  rintro _ ⟨nq, rfl⟩
  go_wp2
  rw [rounds_succ]
  go_wp2
  refine wp_loop_rounds 4 ?_
  rw [rounds_succ]
  go_wp2
  refine region_headq 15 (by kernel_rfl) (by kernel_rfl) ?_
  simp only [List.take_succ_cons, List.take_zero, List.drop_succ_cons, List.drop_zero]
  repeat (go_big_quiet_step (fail))
  refine wpQuiet_nil ?_
  rintro _ ⟨nq, rfl⟩
  go_wp2
  rw [rounds_succ]
  go_wp2
  refine region_headq 15 (by kernel_rfl) (by kernel_rfl) ?_
  simp only [List.take_succ_cons, List.take_zero, List.drop_succ_cons, List.drop_zero]
  repeat (go_big_quiet_step (fail))
  refine wpQuiet_nil ?_
  rintro _ ⟨nq, rfl⟩
  go_wp2
  rw [rounds_succ]
  go_wp2
  refine region_headq 15 (by kernel_rfl) (by kernel_rfl) ?_
  simp only [List.take_succ_cons, List.take_zero, List.drop_succ_cons, List.drop_zero]
  repeat (go_big_quiet_step (fail))
  refine wpQuiet_nil ?_
  rintro _ ⟨nq, rfl⟩
  go_wp2
  rw [rounds_succ]
  go_wp2
  refine bodyPost_ret (v := .agg #[.int .i64 m.aa, .int .i64 m.ab, .int .i64 (wrap64 (m.ac + n * m.aa)), .int .i64 m.ab, .int .i64 m.bb, .int .i64 (wrap64 (m.bc + n * m.ab)), .int .i64 (wrap64 (m.ac + n * m.aa)), .int .i64 (wrap64 (m.bc + n * m.ab)), .int .i64 (wrap64 (m.cc + n * m.ac + n * (m.ac + n * m.aa)))]) (by simp [results, Try.results50, go_sem, wrap_add_l, wrap_add_r, wrap_sub_l, wrap_sub_r, wrap_mul_l, wrap_mul_r, wrap_neg, wrap_wrap, wrap3, *]) rfl ⟨rfl, ?_⟩
  repeat (first | exact Below.refl _ _ | assumption | exact Below.alloc (Below.refl _ _) (Nat.le_refl _) _ | refine Below.setCell ?_ (by first | (simp; done) | (simp; omega) | omega) _ | refine below_drewN ?_ _ | refine Below.alloc ?_ (by first | (simp; done) | (simp; omega) | omega) _ | refine Below.trans ?_ (Below.mono (by assumption) (by first | (simp; done) | (simp; omega) | omega)))

set_option maxHeartbeats 1600000 in
set_option maxRecDepth 100000 in
theorem added_21 (m : Met) (n : Int) (w : World) :
    Calls Try.prog 50 #[.agg #[.int .i64 m.aa, .int .i64 m.ab, .int .i64 m.ac, .int .i64 m.ab, .int .i64 m.bb, .int .i64 m.bc, .int .i64 m.ac, .int .i64 m.bc, .int .i64 m.cc], .int .i64 2, .int .i64 1, .int .i64 n] w fun e w' => e = .returned (.agg #[.int .i64 ((aw21 n m).aa), .int .i64 ((aw21 n m).ab), .int .i64 ((aw21 n m).ac), .int .i64 ((aw21 n m).ab), .int .i64 ((aw21 n m).bb), .int .i64 ((aw21 n m).bc), .int .i64 ((aw21 n m).ac), .int .i64 ((aw21 n m).bc), .int .i64 ((aw21 n m).cc)]) ∧ Below w.heap.size w w' := by
  go_enter Try.func50, Try.ntmps50
  go_wp2
  refine wp_loop_rounds 4 ?_
  rw [rounds_succ]
  go_wp2
  refine region_headq 15 (by kernel_rfl) (by kernel_rfl) ?_
  simp only [List.take_succ_cons, List.take_zero, List.drop_succ_cons, List.drop_zero]
  repeat (go_big_quiet_step (fail))
  refine wpQuiet_nil ?_
  rintro _ ⟨nq, rfl⟩
  go_wp2
  rw [rounds_succ]
  go_wp2
  refine region_headq 15 (by kernel_rfl) (by kernel_rfl) ?_
  simp only [List.take_succ_cons, List.take_zero, List.drop_succ_cons, List.drop_zero]
  repeat (go_big_quiet_step (fail))
  refine wpQuiet_nil ?_
  rintro _ ⟨nq, rfl⟩
  go_wp2
  rw [rounds_succ]
  go_wp2
  refine region_headq 15 (by kernel_rfl) (by kernel_rfl) ?_
  simp only [List.take_succ_cons, List.take_zero, List.drop_succ_cons, List.drop_zero]
  repeat (go_big_quiet_step (fail))
  refine wpQuiet_nil ?_
  rintro _ ⟨nq, rfl⟩
  go_wp2
  rw [rounds_succ]
  go_wp2
  refine wp_loop_rounds 4 ?_
  rw [rounds_succ]
  go_wp2
  refine region_headq 15 (by kernel_rfl) (by kernel_rfl) ?_
  simp only [List.take_succ_cons, List.take_zero, List.drop_succ_cons, List.drop_zero]
  repeat (go_big_quiet_step (fail))
  refine wpQuiet_nil ?_
  rintro _ ⟨nq, rfl⟩
  go_wp2
  rw [rounds_succ]
  go_wp2
  refine region_headq 15 (by kernel_rfl) (by kernel_rfl) ?_
  simp only [List.take_succ_cons, List.take_zero, List.drop_succ_cons, List.drop_zero]
  repeat (go_big_quiet_step (fail))
  refine wpQuiet_nil ?_
  rintro _ ⟨nq, rfl⟩
  go_wp2
  rw [rounds_succ]
  go_wp2
  refine region_headq 15 (by kernel_rfl) (by kernel_rfl) ?_
  simp only [List.take_succ_cons, List.take_zero, List.drop_succ_cons, List.drop_zero]
  repeat (go_big_quiet_step (fail))
  refine wpQuiet_nil ?_
  rintro _ ⟨nq, rfl⟩
  go_wp2
  rw [rounds_succ]
  go_wp2
  refine bodyPost_ret (v := .agg #[.int .i64 m.aa, .int .i64 m.ab, .int .i64 (wrap64 (m.ac + n * m.ab)), .int .i64 m.ab, .int .i64 m.bb, .int .i64 (wrap64 (m.bc + n * m.bb)), .int .i64 (wrap64 (m.ac + n * m.ab)), .int .i64 (wrap64 (m.bc + n * m.bb)), .int .i64 (wrap64 (m.cc + n * m.bc + n * (m.bc + n * m.bb)))]) (by simp [results, Try.results50, go_sem, wrap_add_l, wrap_add_r, wrap_sub_l, wrap_sub_r, wrap_mul_l, wrap_mul_r, wrap_neg, wrap_wrap, wrap3, *]) rfl ⟨rfl, ?_⟩
  repeat (first | exact Below.refl _ _ | assumption | exact Below.alloc (Below.refl _ _) (Nat.le_refl _) _ | refine Below.setCell ?_ (by first | (simp; done) | (simp; omega) | omega) _ | refine below_drewN ?_ _ | refine Below.alloc ?_ (by first | (simp; done) | (simp; omega) | omega) _ | refine Below.trans ?_ (Below.mono (by assumption) (by first | (simp; done) | (simp; omega) | omega)))

end Go.Proofs.Ytdhlkhockpblhaa
