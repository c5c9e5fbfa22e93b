/-
  Signed permutations, the walk, permutation 3.
-/
import Derived.Test.YtdhlkhockpblhaaCelS0
namespace Go.Proofs.Ytdhlkhockpblhaa.M
open Go.RowKit
attribute [local irreducible] World.setCell

set_option linter.unusedSimpArgs false
set_option linter.unusedVariables false

set_option maxHeartbeats 3200000 in
set_option maxRecDepth 100000 in
theorem sgq_3 (k : Int) (N : Nat) (w : World) (k1 : 0 ≤ k) (k2 : k ≤ 255) (h : k.tmod 48 = (N : Int)) (hN1 : 24 ≤ N) (hN2 : N < 32):
    Calls Try.prog 28 #[.int .u8 k] w fun e w' => e = .returned (.agg #[.int .i64 (sgM N).p00, .int .i64 (sgM N).p01, .int .i64 (sgM N).p02, .int .i64 (sgM N).p10, .int .i64 (sgM N).p11, .int .i64 (sgM N).p12, .int .i64 (sgM N).p20, .int .i64 (sgM N).p21, .int .i64 (sgM N).p22]) ∧ Below w.heap.size w w' := by
  have hq : (N : Int).tdiv 8 = 3 := by rw [Int.tdiv_eq_ediv_of_nonneg (by omega)]; omega
  go_enter Try.func28, Try.ntmps28
  go_wp2
  have H1 := Lib.hid h; have HQ := Lib.hid hq; clear h hq
  go_loopw [7] (fun i wr => ∃ n : Nat, n ≤ 3 ∧ i = .int .i64 n ∧ QI w w.heap.size (w.heap.size + 1 + 1) (w.heap.size + 1 + 1 + 1) 1 2 0 (prt N n) wr) (fun i _ => 3 - (intOf i).toNat)
  case atStart =>
    refine ⟨0, by omega, rfl, ?_⟩
    constructor
    · repeat (first | exact Below.refl _ _ | assumption | exact Below.alloc (Below.refl _ _) (Nat.le_refl _) _ | refine Below.setCell ?_ (by first | (simp; done) | (simp; omega) | omega) _ | refine below_drewN ?_ _ | refine Below.alloc ?_ (by first | (simp; done) | (simp; omega) | omega) _ | refine Below.trans ?_ (Below.mono (by assumption) (by first | (simp; done) | (simp; omega) | omega)))
    · first | (simp; done) | (simp; omega) | omega
    · omega
    · omega
    · intro o; go_simp
    · intro o; go_simp
    all_goals first | (go_simp; done) | (go_simp; rfl)
  case round =>
    obtain ⟨n, hn, rfl, hinv⟩ := hrel
    obtain ⟨below, zm, zp, zB, fz, fr, r0, r1, r2, r3, r4, r5, r6, r7, r8, p0, p1, p2, c0, c1, c2, c3, c4, c5, c6, c7, c8⟩ := hinv
    have zb := below.size
    have q0 : w.heap.size < wr.heap.size := by omega
    have q1 : w.heap.size + 1 < wr.heap.size := by omega
    have q2 : w.heap.size + 1 + 1 < wr.heap.size := by omega
    rcases (by omega : n = 0 ∨ n = 1 ∨ n = 2 ∨ n = 3) with rfl | rfl | rfl | rfl
    · rcases (by omega : N = 24 ∨ N = 25 ∨ N = 26 ∨ N = 27 ∨ N = 28 ∨ N = 29 ∨ N = 30 ∨ N = 31) with rfl | rfl | rfl | rfl | rfl | rfl | rfl | rfl
      · have h1 := H1.out
        replace c0 := cell_v (b := 0) c0 rfl
        replace c1 := cell_v (b := 0) c1 rfl
        replace c2 := cell_v (b := 0) c2 rfl
        replace c3 := cell_v (b := 0) c3 rfl
        replace c4 := cell_v (b := 0) c4 rfl
        replace c5 := cell_v (b := 0) c5 rfl
        replace c6 := cell_v (b := 0) c6 rfl
        replace c7 := cell_v (b := 0) c7 rfl
        replace c8 := cell_v (b := 0) c8 rfl
        go_wp2
        refine region_headq 6 (by kernel_rfl) (by kernel_rfl) ?_
        simp only [List.take_succ_cons, List.take_zero, List.drop_succ_cons, List.drop_zero]
        repeat (go_big_quiet_step (fail))
        refine wpQuiet_nil ?_
        rintro _ ⟨nq, rfl⟩
        go_wp2
        go_roundw
        case rel =>
          refine ⟨1, by omega, by go_num, ?_⟩
          constructor
          · repeat (first | exact Below.refl _ _ | assumption | exact Below.alloc (Below.refl _ _) (Nat.le_refl _) _ | refine Below.setCell ?_ (by first | (simp; done) | (simp; omega) | omega) _ | refine below_drewN ?_ _ | refine Below.alloc ?_ (by first | (simp; done) | (simp; omega) | omega) _ | refine Below.trans ?_ (Below.mono (by assumption) (by first | (simp; done) | (simp; omega) | omega)))
          · first | (simp; done) | (simp; omega) | omega
          · omega
          · omega
          · intro o; go_simp
          · intro o; go_simp
          all_goals first | (go_simp; done) | (go_simp; rfl)
        case measure => simp [intOf] <;> omega
      · have h1 := H1.out
        replace c0 := cell_v (b := 0) c0 rfl
        replace c1 := cell_v (b := 0) c1 rfl
        replace c2 := cell_v (b := 0) c2 rfl
        replace c3 := cell_v (b := 0) c3 rfl
        replace c4 := cell_v (b := 0) c4 rfl
        replace c5 := cell_v (b := 0) c5 rfl
        replace c6 := cell_v (b := 0) c6 rfl
        replace c7 := cell_v (b := 0) c7 rfl
        replace c8 := cell_v (b := 0) c8 rfl
        go_wp2
        refine region_headq 6 (by kernel_rfl) (by kernel_rfl) ?_
        simp only [List.take_succ_cons, List.take_zero, List.drop_succ_cons, List.drop_zero]
        repeat (go_big_quiet_step (fail))
        refine wpQuiet_nil ?_
        rintro _ ⟨nq, rfl⟩
        go_wp2
        refine region_headq 6 (by kernel_rfl) (by kernel_rfl) ?_
        simp only [List.take_succ_cons, List.take_zero, List.drop_succ_cons, List.drop_zero]
        repeat (go_big_quiet_step (fail))
        refine wpQuiet_nil ?_
        rintro _ ⟨nq, rfl⟩
        go_wp2
        go_roundw
        case rel =>
          refine ⟨1, by omega, by go_num, ?_⟩
          constructor
          · repeat (first | exact Below.refl _ _ | assumption | exact Below.alloc (Below.refl _ _) (Nat.le_refl _) _ | refine Below.setCell ?_ (by first | (simp; done) | (simp; omega) | omega) _ | refine below_drewN ?_ _ | refine Below.alloc ?_ (by first | (simp; done) | (simp; omega) | omega) _ | refine Below.trans ?_ (Below.mono (by assumption) (by first | (simp; done) | (simp; omega) | omega)))
          · first | (simp; done) | (simp; omega) | omega
          · omega
          · omega
          · intro o; go_simp
          · intro o; go_simp
          all_goals first | (go_simp; done) | (go_simp; rfl)
        case measure => simp [intOf] <;> omega
      · have h1 := H1.out
        replace c0 := cell_v (b := 0) c0 rfl
        replace c1 := cell_v (b := 0) c1 rfl
        replace c2 := cell_v (b := 0) c2 rfl
        replace c3 := cell_v (b := 0) c3 rfl
        replace c4 := cell_v (b := 0) c4 rfl
        replace c5 := cell_v (b := 0) c5 rfl
        replace c6 := cell_v (b := 0) c6 rfl
        replace c7 := cell_v (b := 0) c7 rfl
        replace c8 := cell_v (b := 0) c8 rfl
        go_wp2
        refine region_headq 6 (by kernel_rfl) (by kernel_rfl) ?_
        simp only [List.take_succ_cons, List.take_zero, List.drop_succ_cons, List.drop_zero]
        repeat (go_big_quiet_step (fail))
        refine wpQuiet_nil ?_
        rintro _ ⟨nq, rfl⟩
        go_wp2
        go_roundw
        case rel =>
          refine ⟨1, by omega, by go_num, ?_⟩
          constructor
          · repeat (first | exact Below.refl _ _ | assumption | exact Below.alloc (Below.refl _ _) (Nat.le_refl _) _ | refine Below.setCell ?_ (by first | (simp; done) | (simp; omega) | omega) _ | refine below_drewN ?_ _ | refine Below.alloc ?_ (by first | (simp; done) | (simp; omega) | omega) _ | refine Below.trans ?_ (Below.mono (by assumption) (by first | (simp; done) | (simp; omega) | omega)))
          · first | (simp; done) | (simp; omega) | omega
          · omega
          · omega
          · intro o; go_simp
          · intro o; go_simp
          all_goals first | (go_simp; done) | (go_simp; rfl)
        case measure => simp [intOf] <;> omega
      · have h1 := H1.out
        replace c0 := cell_v (b := 0) c0 rfl
        replace c1 := cell_v (b := 0) c1 rfl
        replace c2 := cell_v (b := 0) c2 rfl
        replace c3 := cell_v (b := 0) c3 rfl
        replace c4 := cell_v (b := 0) c4 rfl
        replace c5 := cell_v (b := 0) c5 rfl
        replace c6 := cell_v (b := 0) c6 rfl
        replace c7 := cell_v (b := 0) c7 rfl
        replace c8 := cell_v (b := 0) c8 rfl
        go_wp2
        refine region_headq 6 (by kernel_rfl) (by kernel_rfl) ?_
        simp only [List.take_succ_cons, List.take_zero, List.drop_succ_cons, List.drop_zero]
        repeat (go_big_quiet_step (fail))
        refine wpQuiet_nil ?_
        rintro _ ⟨nq, rfl⟩
        go_wp2
        refine region_headq 6 (by kernel_rfl) (by kernel_rfl) ?_
        simp only [List.take_succ_cons, List.take_zero, List.drop_succ_cons, List.drop_zero]
        repeat (go_big_quiet_step (fail))
        refine wpQuiet_nil ?_
        rintro _ ⟨nq, rfl⟩
        go_wp2
        go_roundw
        case rel =>
          refine ⟨1, by omega, by go_num, ?_⟩
          constructor
          · repeat (first | exact Below.refl _ _ | assumption | exact Below.alloc (Below.refl _ _) (Nat.le_refl _) _ | refine Below.setCell ?_ (by first | (simp; done) | (simp; omega) | omega) _ | refine below_drewN ?_ _ | refine Below.alloc ?_ (by first | (simp; done) | (simp; omega) | omega) _ | refine Below.trans ?_ (Below.mono (by assumption) (by first | (simp; done) | (simp; omega) | omega)))
          · first | (simp; done) | (simp; omega) | omega
          · omega
          · omega
          · intro o; go_simp
          · intro o; go_simp
          all_goals first | (go_simp; done) | (go_simp; rfl)
        case measure => simp [intOf] <;> omega
      · have h1 := H1.out
        replace c0 := cell_v (b := 0) c0 rfl
        replace c1 := cell_v (b := 0) c1 rfl
        replace c2 := cell_v (b := 0) c2 rfl
        replace c3 := cell_v (b := 0) c3 rfl
        replace c4 := cell_v (b := 0) c4 rfl
        replace c5 := cell_v (b := 0) c5 rfl
        replace c6 := cell_v (b := 0) c6 rfl
        replace c7 := cell_v (b := 0) c7 rfl
        replace c8 := cell_v (b := 0) c8 rfl
        go_wp2
        refine region_headq 6 (by kernel_rfl) (by kernel_rfl) ?_
        simp only [List.take_succ_cons, List.take_zero, List.drop_succ_cons, List.drop_zero]
        repeat (go_big_quiet_step (fail))
        refine wpQuiet_nil ?_
        rintro _ ⟨nq, rfl⟩
        go_wp2
        go_roundw
        case rel =>
          refine ⟨1, by omega, by go_num, ?_⟩
          constructor
          · repeat (first | exact Below.refl _ _ | assumption | exact Below.alloc (Below.refl _ _) (Nat.le_refl _) _ | refine Below.setCell ?_ (by first | (simp; done) | (simp; omega) | omega) _ | refine below_drewN ?_ _ | refine Below.alloc ?_ (by first | (simp; done) | (simp; omega) | omega) _ | refine Below.trans ?_ (Below.mono (by assumption) (by first | (simp; done) | (simp; omega) | omega)))
          · first | (simp; done) | (simp; omega) | omega
          · omega
          · omega
          · intro o; go_simp
          · intro o; go_simp
          all_goals first | (go_simp; done) | (go_simp; rfl)
        case measure => simp [intOf] <;> omega
      · have h1 := H1.out
        replace c0 := cell_v (b := 0) c0 rfl
        replace c1 := cell_v (b := 0) c1 rfl
        replace c2 := cell_v (b := 0) c2 rfl
        replace c3 := cell_v (b := 0) c3 rfl
        replace c4 := cell_v (b := 0) c4 rfl
        replace c5 := cell_v (b := 0) c5 rfl
        replace c6 := cell_v (b := 0) c6 rfl
        replace c7 := cell_v (b := 0) c7 rfl
        replace c8 := cell_v (b := 0) c8 rfl
        go_wp2
        refine region_headq 6 (by kernel_rfl) (by kernel_rfl) ?_
        simp only [List.take_succ_cons, List.take_zero, List.drop_succ_cons, List.drop_zero]
        repeat (go_big_quiet_step (fail))
        refine wpQuiet_nil ?_
        rintro _ ⟨nq, rfl⟩
        go_wp2
        refine region_headq 6 (by kernel_rfl) (by kernel_rfl) ?_
        simp only [List.take_succ_cons, List.take_zero, List.drop_succ_cons, List.drop_zero]
        repeat (go_big_quiet_step (fail))
        refine wpQuiet_nil ?_
        rintro _ ⟨nq, rfl⟩
        go_wp2
        go_roundw
        case rel =>
          refine ⟨1, by omega, by go_num, ?_⟩
          constructor
          · repeat (first | exact Below.refl _ _ | assumption | exact Below.alloc (Below.refl _ _) (Nat.le_refl _) _ | refine Below.setCell ?_ (by first | (simp; done) | (simp; omega) | omega) _ | refine below_drewN ?_ _ | refine Below.alloc ?_ (by first | (simp; done) | (simp; omega) | omega) _ | refine Below.trans ?_ (Below.mono (by assumption) (by first | (simp; done) | (simp; omega) | omega)))
          · first | (simp; done) | (simp; omega) | omega
          · omega
          · omega
          · intro o; go_simp
          · intro o; go_simp
          all_goals first | (go_simp; done) | (go_simp; rfl)
        case measure => simp [intOf] <;> omega
      · have h1 := H1.out
        replace c0 := cell_v (b := 0) c0 rfl
        replace c1 := cell_v (b := 0) c1 rfl
        replace c2 := cell_v (b := 0) c2 rfl
        replace c3 := cell_v (b := 0) c3 rfl
        replace c4 := cell_v (b := 0) c4 rfl
        replace c5 := cell_v (b := 0) c5 rfl
        replace c6 := cell_v (b := 0) c6 rfl
        replace c7 := cell_v (b := 0) c7 rfl
        replace c8 := cell_v (b := 0) c8 rfl
        go_wp2
        refine region_headq 6 (by kernel_rfl) (by kernel_rfl) ?_
        simp only [List.take_succ_cons, List.take_zero, List.drop_succ_cons, List.drop_zero]
        repeat (go_big_quiet_step (fail))
        refine wpQuiet_nil ?_
        rintro _ ⟨nq, rfl⟩
        go_wp2
        go_roundw
        case rel =>
          refine ⟨1, by omega, by go_num, ?_⟩
          constructor
          · repeat (first | exact Below.refl _ _ | assumption | exact Below.alloc (Below.refl _ _) (Nat.le_refl _) _ | refine Below.setCell ?_ (by first | (simp; done) | (simp; omega) | omega) _ | refine below_drewN ?_ _ | refine Below.alloc ?_ (by first | (simp; done) | (simp; omega) | omega) _ | refine Below.trans ?_ (Below.mono (by assumption) (by first | (simp; done) | (simp; omega) | omega)))
          · first | (simp; done) | (simp; omega) | omega
          · omega
          · omega
          · intro o; go_simp
          · intro o; go_simp
          all_goals first | (go_simp; done) | (go_simp; rfl)
        case measure => simp [intOf] <;> omega
      · have h1 := H1.out
        replace c0 := cell_v (b := 0) c0 rfl
        replace c1 := cell_v (b := 0) c1 rfl
        replace c2 := cell_v (b := 0) c2 rfl
        replace c3 := cell_v (b := 0) c3 rfl
        replace c4 := cell_v (b := 0) c4 rfl
        replace c5 := cell_v (b := 0) c5 rfl
        replace c6 := cell_v (b := 0) c6 rfl
        replace c7 := cell_v (b := 0) c7 rfl
        replace c8 := cell_v (b := 0) c8 rfl
        go_wp2
        refine region_headq 6 (by kernel_rfl) (by kernel_rfl) ?_
        simp only [List.take_succ_cons, List.take_zero, List.drop_succ_cons, List.drop_zero]
        repeat (go_big_quiet_step (fail))
        refine wpQuiet_nil ?_
        rintro _ ⟨nq, rfl⟩
        go_wp2
        refine region_headq 6 (by kernel_rfl) (by kernel_rfl) ?_
        simp only [List.take_succ_cons, List.take_zero, List.drop_succ_cons, List.drop_zero]
        repeat (go_big_quiet_step (fail))
        refine wpQuiet_nil ?_
        rintro _ ⟨nq, rfl⟩
        go_wp2
        go_roundw
        case rel =>
          refine ⟨1, by omega, by go_num, ?_⟩
          constructor
          · repeat (first | exact Below.refl _ _ | assumption | exact Below.alloc (Below.refl _ _) (Nat.le_refl _) _ | refine Below.setCell ?_ (by first | (simp; done) | (simp; omega) | omega) _ | refine below_drewN ?_ _ | refine Below.alloc ?_ (by first | (simp; done) | (simp; omega) | omega) _ | refine Below.trans ?_ (Below.mono (by assumption) (by first | (simp; done) | (simp; omega) | omega)))
          · first | (simp; done) | (simp; omega) | omega
          · omega
          · omega
          · intro o; go_simp
          · intro o; go_simp
          all_goals first | (go_simp; done) | (go_simp; rfl)
        case measure => simp [intOf] <;> omega
    · rcases (by omega : N = 24 ∨ N = 25 ∨ N = 26 ∨ N = 27 ∨ N = 28 ∨ N = 29 ∨ N = 30 ∨ N = 31) with rfl | rfl | rfl | rfl | rfl | rfl | rfl | rfl
      · have h1 := H1.out
        replace c0 := cell_v (b := 0) c0 rfl
        replace c1 := cell_v (b := 1) c1 rfl
        replace c2 := cell_v (b := 0) c2 rfl
        replace c3 := cell_v (b := 0) c3 rfl
        replace c4 := cell_v (b := 0) c4 rfl
        replace c5 := cell_v (b := 0) c5 rfl
        replace c6 := cell_v (b := 0) c6 rfl
        replace c7 := cell_v (b := 0) c7 rfl
        replace c8 := cell_v (b := 0) c8 rfl
        go_wp2
        refine region_headq 6 (by kernel_rfl) (by kernel_rfl) ?_
        simp only [List.take_succ_cons, List.take_zero, List.drop_succ_cons, List.drop_zero]
        repeat (go_big_quiet_step (fail))
        refine wpQuiet_nil ?_
        rintro _ ⟨nq, rfl⟩
        go_wp2
        go_roundw
        case rel =>
          refine ⟨2, by omega, by go_num, ?_⟩
          constructor
          · repeat (first | exact Below.refl _ _ | assumption | exact Below.alloc (Below.refl _ _) (Nat.le_refl _) _ | refine Below.setCell ?_ (by first | (simp; done) | (simp; omega) | omega) _ | refine below_drewN ?_ _ | refine Below.alloc ?_ (by first | (simp; done) | (simp; omega) | omega) _ | refine Below.trans ?_ (Below.mono (by assumption) (by first | (simp; done) | (simp; omega) | omega)))
          · first | (simp; done) | (simp; omega) | omega
          · omega
          · omega
          · intro o; go_simp
          · intro o; go_simp
          all_goals first | (go_simp; done) | (go_simp; rfl)
        case measure => simp [intOf] <;> omega
      · have h1 := H1.out
        replace c0 := cell_v (b := 0) c0 rfl
        replace c1 := cell_v (b := (-1)) c1 rfl
        replace c2 := cell_v (b := 0) c2 rfl
        replace c3 := cell_v (b := 0) c3 rfl
        replace c4 := cell_v (b := 0) c4 rfl
        replace c5 := cell_v (b := 0) c5 rfl
        replace c6 := cell_v (b := 0) c6 rfl
        replace c7 := cell_v (b := 0) c7 rfl
        replace c8 := cell_v (b := 0) c8 rfl
        go_wp2
        refine region_headq 6 (by kernel_rfl) (by kernel_rfl) ?_
        simp only [List.take_succ_cons, List.take_zero, List.drop_succ_cons, List.drop_zero]
        repeat (go_big_quiet_step (fail))
        refine wpQuiet_nil ?_
        rintro _ ⟨nq, rfl⟩
        go_wp2
        go_roundw
        case rel =>
          refine ⟨2, by omega, by go_num, ?_⟩
          constructor
          · repeat (first | exact Below.refl _ _ | assumption | exact Below.alloc (Below.refl _ _) (Nat.le_refl _) _ | refine Below.setCell ?_ (by first | (simp; done) | (simp; omega) | omega) _ | refine below_drewN ?_ _ | refine Below.alloc ?_ (by first | (simp; done) | (simp; omega) | omega) _ | refine Below.trans ?_ (Below.mono (by assumption) (by first | (simp; done) | (simp; omega) | omega)))
          · first | (simp; done) | (simp; omega) | omega
          · omega
          · omega
          · intro o; go_simp
          · intro o; go_simp
          all_goals first | (go_simp; done) | (go_simp; rfl)
        case measure => simp [intOf] <;> omega
      · have h1 := H1.out
        replace c0 := cell_v (b := 0) c0 rfl
        replace c1 := cell_v (b := 1) c1 rfl
        replace c2 := cell_v (b := 0) c2 rfl
        replace c3 := cell_v (b := 0) c3 rfl
        replace c4 := cell_v (b := 0) c4 rfl
        replace c5 := cell_v (b := 0) c5 rfl
        replace c6 := cell_v (b := 0) c6 rfl
        replace c7 := cell_v (b := 0) c7 rfl
        replace c8 := cell_v (b := 0) c8 rfl
        go_wp2
        refine region_headq 6 (by kernel_rfl) (by kernel_rfl) ?_
        simp only [List.take_succ_cons, List.take_zero, List.drop_succ_cons, List.drop_zero]
        repeat (go_big_quiet_step (fail))
        refine wpQuiet_nil ?_
        rintro _ ⟨nq, rfl⟩
        go_wp2
        refine region_headq 6 (by kernel_rfl) (by kernel_rfl) ?_
        simp only [List.take_succ_cons, List.take_zero, List.drop_succ_cons, List.drop_zero]
        repeat (go_big_quiet_step (fail))
        refine wpQuiet_nil ?_
        rintro _ ⟨nq, rfl⟩
        go_wp2
        go_roundw
        case rel =>
          refine ⟨2, by omega, by go_num, ?_⟩
          constructor
          · repeat (first | exact Below.refl _ _ | assumption | exact Below.alloc (Below.refl _ _) (Nat.le_refl _) _ | refine Below.setCell ?_ (by first | (simp; done) | (simp; omega) | omega) _ | refine below_drewN ?_ _ | refine Below.alloc ?_ (by first | (simp; done) | (simp; omega) | omega) _ | refine Below.trans ?_ (Below.mono (by assumption) (by first | (simp; done) | (simp; omega) | omega)))
          · first | (simp; done) | (simp; omega) | omega
          · omega
          · omega
          · intro o; go_simp
          · intro o; go_simp
          all_goals first | (go_simp; done) | (go_simp; rfl)
        case measure => simp [intOf] <;> omega
      · have h1 := H1.out
        replace c0 := cell_v (b := 0) c0 rfl
        replace c1 := cell_v (b := (-1)) c1 rfl
        replace c2 := cell_v (b := 0) c2 rfl
        replace c3 := cell_v (b := 0) c3 rfl
        replace c4 := cell_v (b := 0) c4 rfl
        replace c5 := cell_v (b := 0) c5 rfl
        replace c6 := cell_v (b := 0) c6 rfl
        replace c7 := cell_v (b := 0) c7 rfl
        replace c8 := cell_v (b := 0) c8 rfl
        go_wp2
        refine region_headq 6 (by kernel_rfl) (by kernel_rfl) ?_
        simp only [List.take_succ_cons, List.take_zero, List.drop_succ_cons, List.drop_zero]
        repeat (go_big_quiet_step (fail))
        refine wpQuiet_nil ?_
        rintro _ ⟨nq, rfl⟩
        go_wp2
        refine region_headq 6 (by kernel_rfl) (by kernel_rfl) ?_
        simp only [List.take_succ_cons, List.take_zero, List.drop_succ_cons, List.drop_zero]
        repeat (go_big_quiet_step (fail))
        refine wpQuiet_nil ?_
        rintro _ ⟨nq, rfl⟩
        go_wp2
        go_roundw
        case rel =>
          refine ⟨2, by omega, by go_num, ?_⟩
          constructor
          · repeat (first | exact Below.refl _ _ | assumption | exact Below.alloc (Below.refl _ _) (Nat.le_refl _) _ | refine Below.setCell ?_ (by first | (simp; done) | (simp; omega) | omega) _ | refine below_drewN ?_ _ | refine Below.alloc ?_ (by first | (simp; done) | (simp; omega) | omega) _ | refine Below.trans ?_ (Below.mono (by assumption) (by first | (simp; done) | (simp; omega) | omega)))
          · first | (simp; done) | (simp; omega) | omega
          · omega
          · omega
          · intro o; go_simp
          · intro o; go_simp
          all_goals first | (go_simp; done) | (go_simp; rfl)
        case measure => simp [intOf] <;> omega
      · have h1 := H1.out
        replace c0 := cell_v (b := 0) c0 rfl
        replace c1 := cell_v (b := 1) c1 rfl
        replace c2 := cell_v (b := 0) c2 rfl
        replace c3 := cell_v (b := 0) c3 rfl
        replace c4 := cell_v (b := 0) c4 rfl
        replace c5 := cell_v (b := 0) c5 rfl
        replace c6 := cell_v (b := 0) c6 rfl
        replace c7 := cell_v (b := 0) c7 rfl
        replace c8 := cell_v (b := 0) c8 rfl
        go_wp2
        refine region_headq 6 (by kernel_rfl) (by kernel_rfl) ?_
        simp only [List.take_succ_cons, List.take_zero, List.drop_succ_cons, List.drop_zero]
        repeat (go_big_quiet_step (fail))
        refine wpQuiet_nil ?_
        rintro _ ⟨nq, rfl⟩
        go_wp2
        go_roundw
        case rel =>
          refine ⟨2, by omega, by go_num, ?_⟩
          constructor
          · repeat (first | exact Below.refl _ _ | assumption | exact Below.alloc (Below.refl _ _) (Nat.le_refl _) _ | refine Below.setCell ?_ (by first | (simp; done) | (simp; omega) | omega) _ | refine below_drewN ?_ _ | refine Below.alloc ?_ (by first | (simp; done) | (simp; omega) | omega) _ | refine Below.trans ?_ (Below.mono (by assumption) (by first | (simp; done) | (simp; omega) | omega)))
          · first | (simp; done) | (simp; omega) | omega
          · omega
          · omega
          · intro o; go_simp
          · intro o; go_simp
          all_goals first | (go_simp; done) | (go_simp; rfl)
        case measure => simp [intOf] <;> omega
      · have h1 := H1.out
        replace c0 := cell_v (b := 0) c0 rfl
        replace c1 := cell_v (b := (-1)) c1 rfl
        replace c2 := cell_v (b := 0) c2 rfl
        replace c3 := cell_v (b := 0) c3 rfl
        replace c4 := cell_v (b := 0) c4 rfl
        replace c5 := cell_v (b := 0) c5 rfl
        replace c6 := cell_v (b := 0) c6 rfl
        replace c7 := cell_v (b := 0) c7 rfl
        replace c8 := cell_v (b := 0) c8 rfl
        go_wp2
        refine region_headq 6 (by kernel_rfl) (by kernel_rfl) ?_
        simp only [List.take_succ_cons, List.take_zero, List.drop_succ_cons, List.drop_zero]
        repeat (go_big_quiet_step (fail))
        refine wpQuiet_nil ?_
        rintro _ ⟨nq, rfl⟩
        go_wp2
        go_roundw
        case rel =>
          refine ⟨2, by omega, by go_num, ?_⟩
          constructor
          · repeat (first | exact Below.refl _ _ | assumption | exact Below.alloc (Below.refl _ _) (Nat.le_refl _) _ | refine Below.setCell ?_ (by first | (simp; done) | (simp; omega) | omega) _ | refine below_drewN ?_ _ | refine Below.alloc ?_ (by first | (simp; done) | (simp; omega) | omega) _ | refine Below.trans ?_ (Below.mono (by assumption) (by first | (simp; done) | (simp; omega) | omega)))
          · first | (simp; done) | (simp; omega) | omega
          · omega
          · omega
          · intro o; go_simp
          · intro o; go_simp
          all_goals first | (go_simp; done) | (go_simp; rfl)
        case measure => simp [intOf] <;> omega
      · have h1 := H1.out
        replace c0 := cell_v (b := 0) c0 rfl
        replace c1 := cell_v (b := 1) c1 rfl
        replace c2 := cell_v (b := 0) c2 rfl
        replace c3 := cell_v (b := 0) c3 rfl
        replace c4 := cell_v (b := 0) c4 rfl
        replace c5 := cell_v (b := 0) c5 rfl
        replace c6 := cell_v (b := 0) c6 rfl
        replace c7 := cell_v (b := 0) c7 rfl
        replace c8 := cell_v (b := 0) c8 rfl
        go_wp2
        refine region_headq 6 (by kernel_rfl) (by kernel_rfl) ?_
        simp only [List.take_succ_cons, List.take_zero, List.drop_succ_cons, List.drop_zero]
        repeat (go_big_quiet_step (fail))
        refine wpQuiet_nil ?_
        rintro _ ⟨nq, rfl⟩
        go_wp2
        refine region_headq 6 (by kernel_rfl) (by kernel_rfl) ?_
        simp only [List.take_succ_cons, List.take_zero, List.drop_succ_cons, List.drop_zero]
        repeat (go_big_quiet_step (fail))
        refine wpQuiet_nil ?_
        rintro _ ⟨nq, rfl⟩
        go_wp2
        go_roundw
        case rel =>
          refine ⟨2, by omega, by go_num, ?_⟩
          constructor
          · repeat (first | exact Below.refl _ _ | assumption | exact Below.alloc (Below.refl _ _) (Nat.le_refl _) _ | refine Below.setCell ?_ (by first | (simp; done) | (simp; omega) | omega) _ | refine below_drewN ?_ _ | refine Below.alloc ?_ (by first | (simp; done) | (simp; omega) | omega) _ | refine Below.trans ?_ (Below.mono (by assumption) (by first | (simp; done) | (simp; omega) | omega)))
          · first | (simp; done) | (simp; omega) | omega
          · omega
          · omega
          · intro o; go_simp
          · intro o; go_simp
          all_goals first | (go_simp; done) | (go_simp; rfl)
        case measure => simp [intOf] <;> omega
      · have h1 := H1.out
        replace c0 := cell_v (b := 0) c0 rfl
        replace c1 := cell_v (b := (-1)) c1 rfl
        replace c2 := cell_v (b := 0) c2 rfl
        replace c3 := cell_v (b := 0) c3 rfl
        replace c4 := cell_v (b := 0) c4 rfl
        replace c5 := cell_v (b := 0) c5 rfl
        replace c6 := cell_v (b := 0) c6 rfl
        replace c7 := cell_v (b := 0) c7 rfl
        replace c8 := cell_v (b := 0) c8 rfl
        go_wp2
        refine region_headq 6 (by kernel_rfl) (by kernel_rfl) ?_
        simp only [List.take_succ_cons, List.take_zero, List.drop_succ_cons, List.drop_zero]
        repeat (go_big_quiet_step (fail))
        refine wpQuiet_nil ?_
        rintro _ ⟨nq, rfl⟩
        go_wp2
        refine region_headq 6 (by kernel_rfl) (by kernel_rfl) ?_
        simp only [List.take_succ_cons, List.take_zero, List.drop_succ_cons, List.drop_zero]
        repeat (go_big_quiet_step (fail))
        refine wpQuiet_nil ?_
        rintro _ ⟨nq, rfl⟩
        go_wp2
        go_roundw
        case rel =>
          refine ⟨2, by omega, by go_num, ?_⟩
          constructor
          · repeat (first | exact Below.refl _ _ | assumption | exact Below.alloc (Below.refl _ _) (Nat.le_refl _) _ | refine Below.setCell ?_ (by first | (simp; done) | (simp; omega) | omega) _ | refine below_drewN ?_ _ | refine Below.alloc ?_ (by first | (simp; done) | (simp; omega) | omega) _ | refine Below.trans ?_ (Below.mono (by assumption) (by first | (simp; done) | (simp; omega) | omega)))
          · first | (simp; done) | (simp; omega) | omega
          · omega
          · omega
          · intro o; go_simp
          · intro o; go_simp
          all_goals first | (go_simp; done) | (go_simp; rfl)
        case measure => simp [intOf] <;> omega
    · rcases (by omega : N = 24 ∨ N = 25 ∨ N = 26 ∨ N = 27 ∨ N = 28 ∨ N = 29 ∨ N = 30 ∨ N = 31) with rfl | rfl | rfl | rfl | rfl | rfl | rfl | rfl
      · have h1 := H1.out
        replace c0 := cell_v (b := 0) c0 rfl
        replace c1 := cell_v (b := 1) c1 rfl
        replace c2 := cell_v (b := 0) c2 rfl
        replace c3 := cell_v (b := 0) c3 rfl
        replace c4 := cell_v (b := 0) c4 rfl
        replace c5 := cell_v (b := 1) c5 rfl
        replace c6 := cell_v (b := 0) c6 rfl
        replace c7 := cell_v (b := 0) c7 rfl
        replace c8 := cell_v (b := 0) c8 rfl
        go_wp2
        refine region_headq 6 (by kernel_rfl) (by kernel_rfl) ?_
        simp only [List.take_succ_cons, List.take_zero, List.drop_succ_cons, List.drop_zero]
        repeat (go_big_quiet_step (fail))
        refine wpQuiet_nil ?_
        rintro _ ⟨nq, rfl⟩
        go_wp2
        go_roundw
        case rel =>
          refine ⟨3, by omega, by go_num, ?_⟩
          constructor
          · repeat (first | exact Below.refl _ _ | assumption | exact Below.alloc (Below.refl _ _) (Nat.le_refl _) _ | refine Below.setCell ?_ (by first | (simp; done) | (simp; omega) | omega) _ | refine below_drewN ?_ _ | refine Below.alloc ?_ (by first | (simp; done) | (simp; omega) | omega) _ | refine Below.trans ?_ (Below.mono (by assumption) (by first | (simp; done) | (simp; omega) | omega)))
          · first | (simp; done) | (simp; omega) | omega
          · omega
          · omega
          · intro o; go_simp
          · intro o; go_simp
          all_goals first | (go_simp; done) | (go_simp; rfl)
        case measure => simp [intOf] <;> omega
      · have h1 := H1.out
        replace c0 := cell_v (b := 0) c0 rfl
        replace c1 := cell_v (b := (-1)) c1 rfl
        replace c2 := cell_v (b := 0) c2 rfl
        replace c3 := cell_v (b := 0) c3 rfl
        replace c4 := cell_v (b := 0) c4 rfl
        replace c5 := cell_v (b := 1) c5 rfl
        replace c6 := cell_v (b := 0) c6 rfl
        replace c7 := cell_v (b := 0) c7 rfl
        replace c8 := cell_v (b := 0) c8 rfl
        go_wp2
        refine region_headq 6 (by kernel_rfl) (by kernel_rfl) ?_
        simp only [List.take_succ_cons, List.take_zero, List.drop_succ_cons, List.drop_zero]
        repeat (go_big_quiet_step (fail))
        refine wpQuiet_nil ?_
        rintro _ ⟨nq, rfl⟩
        go_wp2
        go_roundw
        case rel =>
          refine ⟨3, by omega, by go_num, ?_⟩
          constructor
          · repeat (first | exact Below.refl _ _ | assumption | exact Below.alloc (Below.refl _ _) (Nat.le_refl _) _ | refine Below.setCell ?_ (by first | (simp; done) | (simp; omega) | omega) _ | refine below_drewN ?_ _ | refine Below.alloc ?_ (by first | (simp; done) | (simp; omega) | omega) _ | refine Below.trans ?_ (Below.mono (by assumption) (by first | (simp; done) | (simp; omega) | omega)))
          · first | (simp; done) | (simp; omega) | omega
          · omega
          · omega
          · intro o; go_simp
          · intro o; go_simp
          all_goals first | (go_simp; done) | (go_simp; rfl)
        case measure => simp [intOf] <;> omega
      · have h1 := H1.out
        replace c0 := cell_v (b := 0) c0 rfl
        replace c1 := cell_v (b := 1) c1 rfl
        replace c2 := cell_v (b := 0) c2 rfl
        replace c3 := cell_v (b := 0) c3 rfl
        replace c4 := cell_v (b := 0) c4 rfl
        replace c5 := cell_v (b := (-1)) c5 rfl
        replace c6 := cell_v (b := 0) c6 rfl
        replace c7 := cell_v (b := 0) c7 rfl
        replace c8 := cell_v (b := 0) c8 rfl
        go_wp2
        refine region_headq 6 (by kernel_rfl) (by kernel_rfl) ?_
        simp only [List.take_succ_cons, List.take_zero, List.drop_succ_cons, List.drop_zero]
        repeat (go_big_quiet_step (fail))
        refine wpQuiet_nil ?_
        rintro _ ⟨nq, rfl⟩
        go_wp2
        go_roundw
        case rel =>
          refine ⟨3, by omega, by go_num, ?_⟩
          constructor
          · repeat (first | exact Below.refl _ _ | assumption | exact Below.alloc (Below.refl _ _) (Nat.le_refl _) _ | refine Below.setCell ?_ (by first | (simp; done) | (simp; omega) | omega) _ | refine below_drewN ?_ _ | refine Below.alloc ?_ (by first | (simp; done) | (simp; omega) | omega) _ | refine Below.trans ?_ (Below.mono (by assumption) (by first | (simp; done) | (simp; omega) | omega)))
          · first | (simp; done) | (simp; omega) | omega
          · omega
          · omega
          · intro o; go_simp
          · intro o; go_simp
          all_goals first | (go_simp; done) | (go_simp; rfl)
        case measure => simp [intOf] <;> omega
      · have h1 := H1.out
        replace c0 := cell_v (b := 0) c0 rfl
        replace c1 := cell_v (b := (-1)) c1 rfl
        replace c2 := cell_v (b := 0) c2 rfl
        replace c3 := cell_v (b := 0) c3 rfl
        replace c4 := cell_v (b := 0) c4 rfl
        replace c5 := cell_v (b := (-1)) c5 rfl
        replace c6 := cell_v (b := 0) c6 rfl
        replace c7 := cell_v (b := 0) c7 rfl
        replace c8 := cell_v (b := 0) c8 rfl
        go_wp2
        refine region_headq 6 (by kernel_rfl) (by kernel_rfl) ?_
        simp only [List.take_succ_cons, List.take_zero, List.drop_succ_cons, List.drop_zero]
        repeat (go_big_quiet_step (fail))
        refine wpQuiet_nil ?_
        rintro _ ⟨nq, rfl⟩
        go_wp2
        go_roundw
        case rel =>
          refine ⟨3, by omega, by go_num, ?_⟩
          constructor
          · repeat (first | exact Below.refl _ _ | assumption | exact Below.alloc (Below.refl _ _) (Nat.le_refl _) _ | refine Below.setCell ?_ (by first | (simp; done) | (simp; omega) | omega) _ | refine below_drewN ?_ _ | refine Below.alloc ?_ (by first | (simp; done) | (simp; omega) | omega) _ | refine Below.trans ?_ (Below.mono (by assumption) (by first | (simp; done) | (simp; omega) | omega)))
          · first | (simp; done) | (simp; omega) | omega
          · omega
          · omega
          · intro o; go_simp
          · intro o; go_simp
          all_goals first | (go_simp; done) | (go_simp; rfl)
        case measure => simp [intOf] <;> omega
      · have h1 := H1.out
        replace c0 := cell_v (b := 0) c0 rfl
        replace c1 := cell_v (b := 1) c1 rfl
        replace c2 := cell_v (b := 0) c2 rfl
        replace c3 := cell_v (b := 0) c3 rfl
        replace c4 := cell_v (b := 0) c4 rfl
        replace c5 := cell_v (b := 1) c5 rfl
        replace c6 := cell_v (b := 0) c6 rfl
        replace c7 := cell_v (b := 0) c7 rfl
        replace c8 := cell_v (b := 0) c8 rfl
        go_wp2
        refine region_headq 6 (by kernel_rfl) (by kernel_rfl) ?_
        simp only [List.take_succ_cons, List.take_zero, List.drop_succ_cons, List.drop_zero]
        repeat (go_big_quiet_step (fail))
        refine wpQuiet_nil ?_
        rintro _ ⟨nq, rfl⟩
        go_wp2
        refine region_headq 6 (by kernel_rfl) (by kernel_rfl) ?_
        simp only [List.take_succ_cons, List.take_zero, List.drop_succ_cons, List.drop_zero]
        repeat (go_big_quiet_step (fail))
        refine wpQuiet_nil ?_
        rintro _ ⟨nq, rfl⟩
        go_wp2
        go_roundw
        case rel =>
          refine ⟨3, by omega, by go_num, ?_⟩
          constructor
          · repeat (first | exact Below.refl _ _ | assumption | exact Below.alloc (Below.refl _ _) (Nat.le_refl _) _ | refine Below.setCell ?_ (by first | (simp; done) | (simp; omega) | omega) _ | refine below_drewN ?_ _ | refine Below.alloc ?_ (by first | (simp; done) | (simp; omega) | omega) _ | refine Below.trans ?_ (Below.mono (by assumption) (by first | (simp; done) | (simp; omega) | omega)))
          · first | (simp; done) | (simp; omega) | omega
          · omega
          · omega
          · intro o; go_simp
          · intro o; go_simp
          all_goals first | (go_simp; done) | (go_simp; rfl)
        case measure => simp [intOf] <;> omega
      · have h1 := H1.out
        replace c0 := cell_v (b := 0) c0 rfl
        replace c1 := cell_v (b := (-1)) c1 rfl
        replace c2 := cell_v (b := 0) c2 rfl
        replace c3 := cell_v (b := 0) c3 rfl
        replace c4 := cell_v (b := 0) c4 rfl
        replace c5 := cell_v (b := 1) c5 rfl
        replace c6 := cell_v (b := 0) c6 rfl
        replace c7 := cell_v (b := 0) c7 rfl
        replace c8 := cell_v (b := 0) c8 rfl
        go_wp2
        refine region_headq 6 (by kernel_rfl) (by kernel_rfl) ?_
        simp only [List.take_succ_cons, List.take_zero, List.drop_succ_cons, List.drop_zero]
        repeat (go_big_quiet_step (fail))
        refine wpQuiet_nil ?_
        rintro _ ⟨nq, rfl⟩
        go_wp2
        refine region_headq 6 (by kernel_rfl) (by kernel_rfl) ?_
        simp only [List.take_succ_cons, List.take_zero, List.drop_succ_cons, List.drop_zero]
        repeat (go_big_quiet_step (fail))
        refine wpQuiet_nil ?_
        rintro _ ⟨nq, rfl⟩
        go_wp2
        go_roundw
        case rel =>
          refine ⟨3, by omega, by go_num, ?_⟩
          constructor
          · repeat (first | exact Below.refl _ _ | assumption | exact Below.alloc (Below.refl _ _) (Nat.le_refl _) _ | refine Below.setCell ?_ (by first | (simp; done) | (simp; omega) | omega) _ | refine below_drewN ?_ _ | refine Below.alloc ?_ (by first | (simp; done) | (simp; omega) | omega) _ | refine Below.trans ?_ (Below.mono (by assumption) (by first | (simp; done) | (simp; omega) | omega)))
          · first | (simp; done) | (simp; omega) | omega
          · omega
          · omega
          · intro o; go_simp
          · intro o; go_simp
          all_goals first | (go_simp; done) | (go_simp; rfl)
        case measure => simp [intOf] <;> omega
      · have h1 := H1.out
        replace c0 := cell_v (b := 0) c0 rfl
        replace c1 := cell_v (b := 1) c1 rfl
        replace c2 := cell_v (b := 0) c2 rfl
        replace c3 := cell_v (b := 0) c3 rfl
        replace c4 := cell_v (b := 0) c4 rfl
        replace c5 := cell_v (b := (-1)) c5 rfl
        replace c6 := cell_v (b := 0) c6 rfl
        replace c7 := cell_v (b := 0) c7 rfl
        replace c8 := cell_v (b := 0) c8 rfl
        go_wp2
        refine region_headq 6 (by kernel_rfl) (by kernel_rfl) ?_
        simp only [List.take_succ_cons, List.take_zero, List.drop_succ_cons, List.drop_zero]
        repeat (go_big_quiet_step (fail))
        refine wpQuiet_nil ?_
        rintro _ ⟨nq, rfl⟩
        go_wp2
        refine region_headq 6 (by kernel_rfl) (by kernel_rfl) ?_
        simp only [List.take_succ_cons, List.take_zero, List.drop_succ_cons, List.drop_zero]
        repeat (go_big_quiet_step (fail))
        refine wpQuiet_nil ?_
        rintro _ ⟨nq, rfl⟩
        go_wp2
        go_roundw
        case rel =>
          refine ⟨3, by omega, by go_num, ?_⟩
          constructor
          · repeat (first | exact Below.refl _ _ | assumption | exact Below.alloc (Below.refl _ _) (Nat.le_refl _) _ | refine Below.setCell ?_ (by first | (simp; done) | (simp; omega) | omega) _ | refine below_drewN ?_ _ | refine Below.alloc ?_ (by first | (simp; done) | (simp; omega) | omega) _ | refine Below.trans ?_ (Below.mono (by assumption) (by first | (simp; done) | (simp; omega) | omega)))
          · first | (simp; done) | (simp; omega) | omega
          · omega
          · omega
          · intro o; go_simp
          · intro o; go_simp
          all_goals first | (go_simp; done) | (go_simp; rfl)
        case measure => simp [intOf] <;> omega
      · have h1 := H1.out
        replace c0 := cell_v (b := 0) c0 rfl
        replace c1 := cell_v (b := (-1)) c1 rfl
        replace c2 := cell_v (b := 0) c2 rfl
        replace c3 := cell_v (b := 0) c3 rfl
        replace c4 := cell_v (b := 0) c4 rfl
        replace c5 := cell_v (b := (-1)) c5 rfl
        replace c6 := cell_v (b := 0) c6 rfl
        replace c7 := cell_v (b := 0) c7 rfl
        replace c8 := cell_v (b := 0) c8 rfl
        go_wp2
        refine region_headq 6 (by kernel_rfl) (by kernel_rfl) ?_
        simp only [List.take_succ_cons, List.take_zero, List.drop_succ_cons, List.drop_zero]
        repeat (go_big_quiet_step (fail))
        refine wpQuiet_nil ?_
        rintro _ ⟨nq, rfl⟩
        go_wp2
        refine region_headq 6 (by kernel_rfl) (by kernel_rfl) ?_
        simp only [List.take_succ_cons, List.take_zero, List.drop_succ_cons, List.drop_zero]
        repeat (go_big_quiet_step (fail))
        refine wpQuiet_nil ?_
        rintro _ ⟨nq, rfl⟩
        go_wp2
        go_roundw
        case rel =>
          refine ⟨3, by omega, by go_num, ?_⟩
          constructor
          · repeat (first | exact Below.refl _ _ | assumption | exact Below.alloc (Below.refl _ _) (Nat.le_refl _) _ | refine Below.setCell ?_ (by first | (simp; done) | (simp; omega) | omega) _ | refine below_drewN ?_ _ | refine Below.alloc ?_ (by first | (simp; done) | (simp; omega) | omega) _ | refine Below.trans ?_ (Below.mono (by assumption) (by first | (simp; done) | (simp; omega) | omega)))
          · first | (simp; done) | (simp; omega) | omega
          · omega
          · omega
          · intro o; go_simp
          · intro o; go_simp
          all_goals first | (go_simp; done) | (go_simp; rfl)
        case measure => simp [intOf] <;> omega
    · rcases (by omega : N = 24 ∨ N = 25 ∨ N = 26 ∨ N = 27 ∨ N = 28 ∨ N = 29 ∨ N = 30 ∨ N = 31) with rfl | rfl | rfl | rfl | rfl | rfl | rfl | rfl
      · replace c0 := cell_v (b := 0) c0 rfl
        replace c1 := cell_v (b := 1) c1 rfl
        replace c2 := cell_v (b := 0) c2 rfl
        replace c3 := cell_v (b := 0) c3 rfl
        replace c4 := cell_v (b := 0) c4 rfl
        replace c5 := cell_v (b := 1) c5 rfl
        replace c6 := cell_v (b := 1) c6 rfl
        replace c7 := cell_v (b := 0) c7 rfl
        replace c8 := cell_v (b := 0) c8 rfl
        go_wp2
        refine bodyPost_ret (v := .agg #[.int .i64 0, .int .i64 1, .int .i64 0, .int .i64 0, .int .i64 0, .int .i64 1, .int .i64 1, .int .i64 0, .int .i64 0]) (by simp [results, Try.results28, go_sem, *]) rfl ⟨rfl, ?_⟩
        repeat (first | exact Below.refl _ _ | assumption | exact Below.alloc (Below.refl _ _) (Nat.le_refl _) _ | refine Below.setCell ?_ (by first | (simp; done) | (simp; omega) | omega) _ | refine below_drewN ?_ _ | refine Below.alloc ?_ (by first | (simp; done) | (simp; omega) | omega) _ | refine Below.trans ?_ (Below.mono (by assumption) (by first | (simp; done) | (simp; omega) | omega)))
      · replace c0 := cell_v (b := 0) c0 rfl
        replace c1 := cell_v (b := (-1)) c1 rfl
        replace c2 := cell_v (b := 0) c2 rfl
        replace c3 := cell_v (b := 0) c3 rfl
        replace c4 := cell_v (b := 0) c4 rfl
        replace c5 := cell_v (b := 1) c5 rfl
        replace c6 := cell_v (b := 1) c6 rfl
        replace c7 := cell_v (b := 0) c7 rfl
        replace c8 := cell_v (b := 0) c8 rfl
        go_wp2
        refine bodyPost_ret (v := .agg #[.int .i64 0, .int .i64 ((-1)), .int .i64 0, .int .i64 0, .int .i64 0, .int .i64 1, .int .i64 1, .int .i64 0, .int .i64 0]) (by simp [results, Try.results28, go_sem, *]) rfl ⟨rfl, ?_⟩
        repeat (first | exact Below.refl _ _ | assumption | exact Below.alloc (Below.refl _ _) (Nat.le_refl _) _ | refine Below.setCell ?_ (by first | (simp; done) | (simp; omega) | omega) _ | refine below_drewN ?_ _ | refine Below.alloc ?_ (by first | (simp; done) | (simp; omega) | omega) _ | refine Below.trans ?_ (Below.mono (by assumption) (by first | (simp; done) | (simp; omega) | omega)))
      · replace c0 := cell_v (b := 0) c0 rfl
        replace c1 := cell_v (b := 1) c1 rfl
        replace c2 := cell_v (b := 0) c2 rfl
        replace c3 := cell_v (b := 0) c3 rfl
        replace c4 := cell_v (b := 0) c4 rfl
        replace c5 := cell_v (b := (-1)) c5 rfl
        replace c6 := cell_v (b := 1) c6 rfl
        replace c7 := cell_v (b := 0) c7 rfl
        replace c8 := cell_v (b := 0) c8 rfl
        go_wp2
        refine bodyPost_ret (v := .agg #[.int .i64 0, .int .i64 1, .int .i64 0, .int .i64 0, .int .i64 0, .int .i64 ((-1)), .int .i64 1, .int .i64 0, .int .i64 0]) (by simp [results, Try.results28, go_sem, *]) rfl ⟨rfl, ?_⟩
        repeat (first | exact Below.refl _ _ | assumption | exact Below.alloc (Below.refl _ _) (Nat.le_refl _) _ | refine Below.setCell ?_ (by first | (simp; done) | (simp; omega) | omega) _ | refine below_drewN ?_ _ | refine Below.alloc ?_ (by first | (simp; done) | (simp; omega) | omega) _ | refine Below.trans ?_ (Below.mono (by assumption) (by first | (simp; done) | (simp; omega) | omega)))
      · replace c0 := cell_v (b := 0) c0 rfl
        replace c1 := cell_v (b := (-1)) c1 rfl
        replace c2 := cell_v (b := 0) c2 rfl
        replace c3 := cell_v (b := 0) c3 rfl
        replace c4 := cell_v (b := 0) c4 rfl
        replace c5 := cell_v (b := (-1)) c5 rfl
        replace c6 := cell_v (b := 1) c6 rfl
        replace c7 := cell_v (b := 0) c7 rfl
        replace c8 := cell_v (b := 0) c8 rfl
        go_wp2
        refine bodyPost_ret (v := .agg #[.int .i64 0, .int .i64 ((-1)), .int .i64 0, .int .i64 0, .int .i64 0, .int .i64 ((-1)), .int .i64 1, .int .i64 0, .int .i64 0]) (by simp [results, Try.results28, go_sem, *]) rfl ⟨rfl, ?_⟩
        repeat (first | exact Below.refl _ _ | assumption | exact Below.alloc (Below.refl _ _) (Nat.le_refl _) _ | refine Below.setCell ?_ (by first | (simp; done) | (simp; omega) | omega) _ | refine below_drewN ?_ _ | refine Below.alloc ?_ (by first | (simp; done) | (simp; omega) | omega) _ | refine Below.trans ?_ (Below.mono (by assumption) (by first | (simp; done) | (simp; omega) | omega)))
      · replace c0 := cell_v (b := 0) c0 rfl
        replace c1 := cell_v (b := 1) c1 rfl
        replace c2 := cell_v (b := 0) c2 rfl
        replace c3 := cell_v (b := 0) c3 rfl
        replace c4 := cell_v (b := 0) c4 rfl
        replace c5 := cell_v (b := 1) c5 rfl
        replace c6 := cell_v (b := (-1)) c6 rfl
        replace c7 := cell_v (b := 0) c7 rfl
        replace c8 := cell_v (b := 0) c8 rfl
        go_wp2
        refine bodyPost_ret (v := .agg #[.int .i64 0, .int .i64 1, .int .i64 0, .int .i64 0, .int .i64 0, .int .i64 1, .int .i64 ((-1)), .int .i64 0, .int .i64 0]) (by simp [results, Try.results28, go_sem, *]) rfl ⟨rfl, ?_⟩
        repeat (first | exact Below.refl _ _ | assumption | exact Below.alloc (Below.refl _ _) (Nat.le_refl _) _ | refine Below.setCell ?_ (by first | (simp; done) | (simp; omega) | omega) _ | refine below_drewN ?_ _ | refine Below.alloc ?_ (by first | (simp; done) | (simp; omega) | omega) _ | refine Below.trans ?_ (Below.mono (by assumption) (by first | (simp; done) | (simp; omega) | omega)))
      · replace c0 := cell_v (b := 0) c0 rfl
        replace c1 := cell_v (b := (-1)) c1 rfl
        replace c2 := cell_v (b := 0) c2 rfl
        replace c3 := cell_v (b := 0) c3 rfl
        replace c4 := cell_v (b := 0) c4 rfl
        replace c5 := cell_v (b := 1) c5 rfl
        replace c6 := cell_v (b := (-1)) c6 rfl
        replace c7 := cell_v (b := 0) c7 rfl
        replace c8 := cell_v (b := 0) c8 rfl
        go_wp2
        refine bodyPost_ret (v := .agg #[.int .i64 0, .int .i64 ((-1)), .int .i64 0, .int .i64 0, .int .i64 0, .int .i64 1, .int .i64 ((-1)), .int .i64 0, .int .i64 0]) (by simp [results, Try.results28, go_sem, *]) rfl ⟨rfl, ?_⟩
        repeat (first | exact Below.refl _ _ | assumption | exact Below.alloc (Below.refl _ _) (Nat.le_refl _) _ | refine Below.setCell ?_ (by first | (simp; done) | (simp; omega) | omega) _ | refine below_drewN ?_ _ | refine Below.alloc ?_ (by first | (simp; done) | (simp; omega) | omega) _ | refine Below.trans ?_ (Below.mono (by assumption) (by first | (simp; done) | (simp; omega) | omega)))
      · replace c0 := cell_v (b := 0) c0 rfl
        replace c1 := cell_v (b := 1) c1 rfl
        replace c2 := cell_v (b := 0) c2 rfl
        replace c3 := cell_v (b := 0) c3 rfl
        replace c4 := cell_v (b := 0) c4 rfl
        replace c5 := cell_v (b := (-1)) c5 rfl
        replace c6 := cell_v (b := (-1)) c6 rfl
        replace c7 := cell_v (b := 0) c7 rfl
        replace c8 := cell_v (b := 0) c8 rfl
        go_wp2
        refine bodyPost_ret (v := .agg #[.int .i64 0, .int .i64 1, .int .i64 0, .int .i64 0, .int .i64 0, .int .i64 ((-1)), .int .i64 ((-1)), .int .i64 0, .int .i64 0]) (by simp [results, Try.results28, go_sem, *]) rfl ⟨rfl, ?_⟩
        repeat (first | exact Below.refl _ _ | assumption | exact Below.alloc (Below.refl _ _) (Nat.le_refl _) _ | refine Below.setCell ?_ (by first | (simp; done) | (simp; omega) | omega) _ | refine below_drewN ?_ _ | refine Below.alloc ?_ (by first | (simp; done) | (simp; omega) | omega) _ | refine Below.trans ?_ (Below.mono (by assumption) (by first | (simp; done) | (simp; omega) | omega)))
      · replace c0 := cell_v (b := 0) c0 rfl
        replace c1 := cell_v (b := (-1)) c1 rfl
        replace c2 := cell_v (b := 0) c2 rfl
        replace c3 := cell_v (b := 0) c3 rfl
        replace c4 := cell_v (b := 0) c4 rfl
        replace c5 := cell_v (b := (-1)) c5 rfl
        replace c6 := cell_v (b := (-1)) c6 rfl
        replace c7 := cell_v (b := 0) c7 rfl
        replace c8 := cell_v (b := 0) c8 rfl
        go_wp2
        refine bodyPost_ret (v := .agg #[.int .i64 0, .int .i64 ((-1)), .int .i64 0, .int .i64 0, .int .i64 0, .int .i64 ((-1)), .int .i64 ((-1)), .int .i64 0, .int .i64 0]) (by simp [results, Try.results28, go_sem, *]) rfl ⟨rfl, ?_⟩
        repeat (first | exact Below.refl _ _ | assumption | exact Below.alloc (Below.refl _ _) (Nat.le_refl _) _ | refine Below.setCell ?_ (by first | (simp; done) | (simp; omega) | omega) _ | refine below_drewN ?_ _ | refine Below.alloc ?_ (by first | (simp; done) | (simp; omega) | omega) _ | refine Below.trans ?_ (Below.mono (by assumption) (by first | (simp; done) | (simp; omega) | omega)))

end Go.Proofs.Ytdhlkhockpblhaa.M
