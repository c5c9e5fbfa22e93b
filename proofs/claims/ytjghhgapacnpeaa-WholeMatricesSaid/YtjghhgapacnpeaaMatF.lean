/-
  Powers of matrices modulo three primes: the walk.
-/
import Derived.Test.YtjghhgapacnpeaaMatF0
namespace Go.Proofs.Ytjghhgapacnpeaa
open Go.RowKit
attribute [local irreducible] World.setCell

set_option linter.unusedSimpArgs false
set_option linter.unusedVariables false

set_option maxHeartbeats 12800000 in
set_option maxRecDepth 100000 in
theorem power_any (m : Mt) (n : Nat) (w : World) (hn : n ≤ 6) :
    Calls Try.prog 30 #[.agg #[.int .i64 m.p00, .int .i64 m.p01, .int .i64 m.p02, .int .i64 m.p10, .int .i64 m.p11, .int .i64 m.p12, .int .i64 m.p20, .int .i64 m.p21, .int .i64 m.p22], .int .i64 n] w fun e w' => e = .returned (.bool (powB m n)) ∧ Below w.heap.size w w' := by
  go_enter Try.func30, Try.ntmps30
  go_wp2
  refine wp_loop_rounds 4 ?_
  rw [rounds_succ]
  go_wp2_with fail
  refine (identity_any _).mono ?_
  rintro e v0 ⟨rfl, hbv0⟩
  obtain ⟨hcv0, hfv0⟩ := bcell hbv0
  have hzv0 := hbv0.size
  try simp at hzv0
  have zv0_0 : w.heap.size < v0.heap.size := by omega
  have zv0_1 : w.heap.size + 1 < v0.heap.size := by omega
  go_wp2
  go_loopw [21] (fun i wr => ∃ k : Nat, k ≤ n ∧ i = .int .i64 k ∧ PI w w.heap.size w.heap.size (w.heap.size + 1) v0.heap.size m (pwP 2147483647 m k) wr) (fun i _ => n - (intOf i).toNat)
  case atStart =>
    refine ⟨0, by omega, rfl, ?_⟩
    constructor
    · repeat (first | exact Below.refl _ _ | assumption | exact Below.alloc (Below.refl _ _) (Nat.le_refl _) _ | refine Below.setCell ?_ (by first | (simp; done) | (simp; omega) | omega) _ | refine below_drewN ?_ _ | refine Below.alloc ?_ (by first | (simp; done) | (simp; omega) | omega) _ | refine Below.trans ?_ (Below.mono (by assumption) (by first | (simp; done) | (simp; omega) | omega)))
    · first | (simp; done) | (simp; omega) | omega
    · omega
    · omega
    · intro o; go_simp
    all_goals first | (go_simp; done) | (go_simp; rfl)
  case round =>
    obtain ⟨k, hk, rfl, hinv⟩ := hrel
    by_cases hlt : k < n
    · obtain ⟨below, zc, zm, zs, fz, a0, c0, a1, c1, a2, c2, a3, c3, a4, c4, a5, c5, a6, c6, a7, c7, a8, c8, s0, s1, s2⟩ := hinv
      have zb := below.size
      have q1 : w.heap.size + 1 < wr.heap.size := by omega
      have q2 : w.heap.size < wr.heap.size := by omega
      generalize hx : pwP 2147483647 m k = x at *
      go_wp2
      refine wp_loop_rounds 4 ?_
      rw [rounds_succ]
      go_wp2
      refine wp_loop_rounds 4 ?_
      rw [rounds_succ]
      go_wp2
      refine wp_loop_rounds 4 ?_
      rw [rounds_succ]
      go_wp2
      go_quiet (fail)
      go_wp2
      rw [rounds_succ]
      go_wp2
      go_quiet (fail)
      go_wp2
      rw [rounds_succ]
      go_wp2
      go_quiet (fail)
      go_wp2
      rw [rounds_succ]
      go_wp2
      rw [rounds_succ]
      go_wp2
      refine wp_loop_rounds 4 ?_
      rw [rounds_succ]
      go_wp2
      go_quiet (fail)
      go_wp2
      rw [rounds_succ]
      go_wp2
      go_quiet (fail)
      go_wp2
      rw [rounds_succ]
      go_wp2
      go_quiet (fail)
      go_wp2
      rw [rounds_succ]
      go_wp2
      rw [rounds_succ]
      go_wp2
      refine wp_loop_rounds 4 ?_
      rw [rounds_succ]
      go_wp2
      go_quiet (fail)
      go_wp2
      rw [rounds_succ]
      go_wp2
      go_quiet (fail)
      go_wp2
      rw [rounds_succ]
      go_wp2
      go_quiet (fail)
      go_wp2
      rw [rounds_succ]
      go_wp2
      rw [rounds_succ]
      go_wp2
      rw [rounds_succ]
      go_wp2
      refine wp_loop_rounds 4 ?_
      rw [rounds_succ]
      go_wp2
      refine wp_loop_rounds 4 ?_
      rw [rounds_succ]
      go_wp2
      go_quiet (fail)
      go_wp2
      rw [rounds_succ]
      go_wp2
      go_quiet (fail)
      go_wp2
      rw [rounds_succ]
      go_wp2
      go_quiet (fail)
      go_wp2
      rw [rounds_succ]
      go_wp2
      rw [rounds_succ]
      go_wp2
      refine wp_loop_rounds 4 ?_
      rw [rounds_succ]
      go_wp2
      go_quiet (fail)
      go_wp2
      rw [rounds_succ]
      go_wp2
      go_quiet (fail)
      go_wp2
      rw [rounds_succ]
      go_wp2
      go_quiet (fail)
      go_wp2
      rw [rounds_succ]
      go_wp2
      rw [rounds_succ]
      go_wp2
      refine wp_loop_rounds 4 ?_
      rw [rounds_succ]
      go_wp2
      go_quiet (fail)
      go_wp2
      rw [rounds_succ]
      go_wp2
      go_quiet (fail)
      go_wp2
      rw [rounds_succ]
      go_wp2
      go_quiet (fail)
      go_wp2
      rw [rounds_succ]
      go_wp2
      rw [rounds_succ]
      go_wp2
      rw [rounds_succ]
      go_wp2
      refine wp_loop_rounds 4 ?_
      rw [rounds_succ]
      go_wp2
      refine wp_loop_rounds 4 ?_
      rw [rounds_succ]
      go_wp2
      go_quiet (fail)
      go_wp2
      rw [rounds_succ]
      go_wp2
      go_quiet (fail)
      go_wp2
      rw [rounds_succ]
      go_wp2
      go_quiet (fail)
      go_wp2
      rw [rounds_succ]
      go_wp2
      rw [rounds_succ]
      go_wp2
      refine wp_loop_rounds 4 ?_
      rw [rounds_succ]
      go_wp2
      go_quiet (fail)
      go_wp2
      rw [rounds_succ]
      go_wp2
      go_quiet (fail)
      go_wp2
      rw [rounds_succ]
      go_wp2
      go_quiet (fail)
      go_wp2
      rw [rounds_succ]
      go_wp2
      rw [rounds_succ]
      go_wp2
      refine wp_loop_rounds 4 ?_
      rw [rounds_succ]
      go_wp2
      go_quiet (fail)
      go_wp2
      rw [rounds_succ]
      go_wp2
      go_quiet (fail)
      go_wp2
      rw [rounds_succ]
      go_wp2
      go_quiet (fail)
      go_wp2
      rw [rounds_succ]
      go_wp2
      rw [rounds_succ]
      go_wp2
      rw [rounds_succ]
      go_wp2
      go_roundw
      case rel =>
        refine ⟨k + 1, by omega, by go_num, ?_⟩
        constructor
        · repeat (first | exact Below.refl _ _ | assumption | exact Below.alloc (Below.refl _ _) (Nat.le_refl _) _ | refine Below.setCell ?_ (by first | (simp; done) | (simp; omega) | omega) _ | refine below_drewN ?_ _ | refine Below.alloc ?_ (by first | (simp; done) | (simp; omega) | omega) _ | refine Below.trans ?_ (Below.mono (by assumption) (by first | (simp; done) | (simp; omega) | omega)))
        · first | (simp; done) | (simp; omega) | omega
        · omega
        · omega
        · intro o; go_simp
        all_goals first | (go_simp; done) | (go_simp; rfl) | (go_simp; simp [pwP, stP, emP, hx])
      case measure => simp [intOf] <;> omega
    · obtain rfl : n = k := by omega
      have PW0 := hinv.below
      have PB0 := hinv.below.size
      obtain ⟨below, zc, zm, zs, fz, a0, c0, a1, c1, a2, c2, a3, c3, a4, c4, a5, c5, a6, c6, a7, c7, a8, c8, s0, s1, s2⟩ := hinv
      have eb := beq_one (pwP 2147483647 m n)
      obtain ⟨x, hx⟩ : ∃ x, pwP 2147483647 m n = x := ⟨_, rfl⟩
      rw [hx] at eb c0 c1 c2 c3 c4 c5 c6 c7 c8
      cases h0 : decide (x = one)
      all_goals rw [h0] at eb
      all_goals rw [← hx] at h0
      all_goals have q1 : w.heap.size + 1 < wr.heap.size := by omega
      all_goals have q2 : w.heap.size < wr.heap.size := by omega
      all_goals clear hx hlt zs zm fz
      · go_wp2
        refine region_all (by kernel_rfl) (by kernel_rfl) ?_
        repeat (go_big_quiet_step ((go_at_call 10; exact held_of _ (Nat.le_refl _) (identity_any _))))
        refine wpQuiet_nil ?_
        rintro u0 ⟨⟨w0, hbu0⟩, rfl⟩
        obtain ⟨hcu0, hfu0⟩ := bcell hbu0
        have hzu0 := hbu0.size
        try simp at hzu0
        have zu0_0 : w.heap.size < u0.heap.size := by omega
        have zu0_1 : w.heap.size + 1 < u0.heap.size := by omega
        go_wp2
        go_ret
        refine ⟨ret_bool (by unfold powB; rw [h0]; rfl), ?_⟩
        repeat (first | exact Below.refl _ _ | assumption | exact Below.alloc (Below.refl _ _) (Nat.le_refl _) _ | refine Below.setCell ?_ (by first | (simp; done) | (simp; omega) | omega) _ | refine below_drewN ?_ _ | refine Below.alloc ?_ (by first | (simp; done) | (simp; omega) | omega) _ | refine Below.trans ?_ (Below.mono (by assumption) (by first | (simp; done) | (simp; omega) | omega)))
      · go_wp2
        refine region_all (by kernel_rfl) (by kernel_rfl) ?_
        repeat (go_big_quiet_step ((go_at_call 10; exact held_of _ (Nat.le_refl _) (identity_any _))))
        refine wpQuiet_nil ?_
        rintro u0 ⟨⟨w0, hbu0⟩, rfl⟩
        obtain ⟨hcu0, hfu0⟩ := bcell hbu0
        have hzu0 := hbu0.size
        try simp at hzu0
        have zu0_0 : w.heap.size < u0.heap.size := by omega
        have zu0_1 : w.heap.size + 1 < u0.heap.size := by omega
        go_wp2
        have fa0 : u0.cell? ⟨w.heap.size, 0, none⟩ = some (.int .i64 m.p00) := by go_simp
        have fa1 : u0.cell? ⟨w.heap.size, 1, none⟩ = some (.int .i64 m.p01) := by go_simp
        have fa2 : u0.cell? ⟨w.heap.size, 2, none⟩ = some (.int .i64 m.p02) := by go_simp
        have fa3 : u0.cell? ⟨w.heap.size, 3, none⟩ = some (.int .i64 m.p10) := by go_simp
        have fa4 : u0.cell? ⟨w.heap.size, 4, none⟩ = some (.int .i64 m.p11) := by go_simp
        have fa5 : u0.cell? ⟨w.heap.size, 5, none⟩ = some (.int .i64 m.p12) := by go_simp
        have fa6 : u0.cell? ⟨w.heap.size, 6, none⟩ = some (.int .i64 m.p20) := by go_simp
        have fa7 : u0.cell? ⟨w.heap.size, 7, none⟩ = some (.int .i64 m.p21) := by go_simp
        have fa8 : u0.cell? ⟨w.heap.size, 8, none⟩ = some (.int .i64 m.p22) := by go_simp
        have fs0 : u0.cell? ⟨w.heap.size + 1, 0, none⟩ = some (.int .i64 2147483647) := by go_simp
        have fs1 : u0.cell? ⟨w.heap.size + 1, 1, none⟩ = some (.int .i64 2147483629) := by go_simp
        have fs2 : u0.cell? ⟨w.heap.size + 1, 2, none⟩ = some (.int .i64 2147483587) := by go_simp
        have HB0 : Below w.heap.size w u0 := by
          repeat (first | exact Below.refl _ _ | assumption | exact Below.alloc (Below.refl _ _) (Nat.le_refl _) _ | refine Below.setCell ?_ (by first | (simp; done) | (simp; omega) | omega) _ | refine below_drewN ?_ _ | refine Below.alloc ?_ (by first | (simp; done) | (simp; omega) | omega) _ | refine Below.trans ?_ (Below.mono (by assumption) (by first | (simp; done) | (simp; omega) | omega)))
        clear eb zc below a0 c0 a1 c1 a2 c2 a3 c3 a4 c4 a5 c5 a6 c6 a7 c7 a8 c8 s0 s1 s2 hcu0 hfu0
        have a0 := fa0; clear fa0
        have a1 := fa1; clear fa1
        have a2 := fa2; clear fa2
        have a3 := fa3; clear fa3
        have a4 := fa4; clear fa4
        have a5 := fa5; clear fa5
        have a6 := fa6; clear fa6
        have a7 := fa7; clear fa7
        have a8 := fa8; clear fa8
        have s0 := fs0; clear fs0
        have s1 := fs1; clear fs1
        have s2 := fs2; clear fs2
        have below := HB0; clear HB0
        rw [rounds_succ]
        go_wp2_with fail
        refine (identity_any _).mono ?_
        rintro e v1 ⟨rfl, hbv1⟩
        obtain ⟨hcv1, hfv1⟩ := bcell hbv1
        have hzv1 := hbv1.size
        try simp at hzv1
        have zv1_0 : w.heap.size < v1.heap.size := by omega
        have zv1_1 : w.heap.size + 1 < v1.heap.size := by omega
        go_wp2
        go_loopw [21] (fun i wr => ∃ k : Nat, k ≤ n ∧ i = .int .i64 k ∧ PI w w.heap.size w.heap.size (w.heap.size + 1) v1.heap.size m (pwP 2147483629 m k) wr) (fun i _ => n - (intOf i).toNat)
        case atStart =>
          refine ⟨0, by omega, rfl, ?_⟩
          constructor
          · repeat (first | exact Below.refl _ _ | assumption | exact Below.alloc (Below.refl _ _) (Nat.le_refl _) _ | refine Below.setCell ?_ (by first | (simp; done) | (simp; omega) | omega) _ | refine below_drewN ?_ _ | refine Below.alloc ?_ (by first | (simp; done) | (simp; omega) | omega) _ | refine Below.trans ?_ (Below.mono (by assumption) (by first | (simp; done) | (simp; omega) | omega)))
          · first | (simp; done) | (simp; omega) | omega
          · omega
          · omega
          · intro o; go_simp
          all_goals first | (go_simp; done) | (go_simp; rfl)
        case round =>
          obtain ⟨k, hk, rfl, hinv⟩ := hrel
          by_cases hlt : k < n
          · obtain ⟨below, zc, zm, zs, fz, a0, c0, a1, c1, a2, c2, a3, c3, a4, c4, a5, c5, a6, c6, a7, c7, a8, c8, s0, s1, s2⟩ := hinv
            have zb := below.size
            have q1 : w.heap.size + 1 < wr.heap.size := by omega
            have q2 : w.heap.size < wr.heap.size := by omega
            generalize hx : pwP 2147483629 m k = x at *
            go_wp2
            refine wp_loop_rounds 4 ?_
            rw [rounds_succ]
            go_wp2
            refine wp_loop_rounds 4 ?_
            rw [rounds_succ]
            go_wp2
            refine wp_loop_rounds 4 ?_
            rw [rounds_succ]
            go_wp2
            go_quiet (fail)
            go_wp2
            rw [rounds_succ]
            go_wp2
            go_quiet (fail)
            go_wp2
            rw [rounds_succ]
            go_wp2
            go_quiet (fail)
            go_wp2
            rw [rounds_succ]
            go_wp2
            rw [rounds_succ]
            go_wp2
            refine wp_loop_rounds 4 ?_
            rw [rounds_succ]
            go_wp2
            go_quiet (fail)
            go_wp2
            rw [rounds_succ]
            go_wp2
            go_quiet (fail)
            go_wp2
            rw [rounds_succ]
            go_wp2
            go_quiet (fail)
            go_wp2
            rw [rounds_succ]
            go_wp2
            rw [rounds_succ]
            go_wp2
            refine wp_loop_rounds 4 ?_
            rw [rounds_succ]
            go_wp2
            go_quiet (fail)
            go_wp2
            rw [rounds_succ]
            go_wp2
            go_quiet (fail)
            go_wp2
            rw [rounds_succ]
            go_wp2
            go_quiet (fail)
            go_wp2
            rw [rounds_succ]
            go_wp2
            rw [rounds_succ]
            go_wp2
            rw [rounds_succ]
            go_wp2
            refine wp_loop_rounds 4 ?_
            rw [rounds_succ]
            go_wp2
            refine wp_loop_rounds 4 ?_
            rw [rounds_succ]
            go_wp2
            go_quiet (fail)
            go_wp2
            rw [rounds_succ]
            go_wp2
            go_quiet (fail)
            go_wp2
            rw [rounds_succ]
            go_wp2
            go_quiet (fail)
            go_wp2
            rw [rounds_succ]
            go_wp2
            rw [rounds_succ]
            go_wp2
            refine wp_loop_rounds 4 ?_
            rw [rounds_succ]
            go_wp2
            go_quiet (fail)
            go_wp2
            rw [rounds_succ]
            go_wp2
            go_quiet (fail)
            go_wp2
            rw [rounds_succ]
            go_wp2
            go_quiet (fail)
            go_wp2
            rw [rounds_succ]
            go_wp2
            rw [rounds_succ]
            go_wp2
            refine wp_loop_rounds 4 ?_
            rw [rounds_succ]
            go_wp2
            go_quiet (fail)
            go_wp2
            rw [rounds_succ]
            go_wp2
            go_quiet (fail)
            go_wp2
            rw [rounds_succ]
            go_wp2
            go_quiet (fail)
            go_wp2
            rw [rounds_succ]
            go_wp2
            rw [rounds_succ]
            go_wp2
            rw [rounds_succ]
            go_wp2
            refine wp_loop_rounds 4 ?_
            rw [rounds_succ]
            go_wp2
            refine wp_loop_rounds 4 ?_
            rw [rounds_succ]
            go_wp2
            go_quiet (fail)
            go_wp2
            rw [rounds_succ]
            go_wp2
            go_quiet (fail)
            go_wp2
            rw [rounds_succ]
            go_wp2
            go_quiet (fail)
            go_wp2
            rw [rounds_succ]
            go_wp2
            rw [rounds_succ]
            go_wp2
            refine wp_loop_rounds 4 ?_
            rw [rounds_succ]
            go_wp2
            go_quiet (fail)
            go_wp2
            rw [rounds_succ]
            go_wp2
            go_quiet (fail)
            go_wp2
            rw [rounds_succ]
            go_wp2
            go_quiet (fail)
            go_wp2
            rw [rounds_succ]
            go_wp2
            rw [rounds_succ]
            go_wp2
            refine wp_loop_rounds 4 ?_
            rw [rounds_succ]
            go_wp2
            go_quiet (fail)
            go_wp2
            rw [rounds_succ]
            go_wp2
            go_quiet (fail)
            go_wp2
            rw [rounds_succ]
            go_wp2
            go_quiet (fail)
            go_wp2
            rw [rounds_succ]
            go_wp2
            rw [rounds_succ]
            go_wp2
            rw [rounds_succ]
            go_wp2
            go_roundw
            case rel =>
              refine ⟨k + 1, by omega, by go_num, ?_⟩
              constructor
              · repeat (first | exact Below.refl _ _ | assumption | exact Below.alloc (Below.refl _ _) (Nat.le_refl _) _ | refine Below.setCell ?_ (by first | (simp; done) | (simp; omega) | omega) _ | refine below_drewN ?_ _ | refine Below.alloc ?_ (by first | (simp; done) | (simp; omega) | omega) _ | refine Below.trans ?_ (Below.mono (by assumption) (by first | (simp; done) | (simp; omega) | omega)))
              · first | (simp; done) | (simp; omega) | omega
              · omega
              · omega
              · intro o; go_simp
              all_goals first | (go_simp; done) | (go_simp; rfl) | (go_simp; simp [pwP, stP, emP, hx])
            case measure => simp [intOf] <;> omega
          · obtain rfl : n = k := by omega
            have PW1 := hinv.below
            have PB1 := hinv.below.size
            obtain ⟨below, zc, zm, zs, fz, a0, c0, a1, c1, a2, c2, a3, c3, a4, c4, a5, c5, a6, c6, a7, c7, a8, c8, s0, s1, s2⟩ := hinv
            have eb := beq_one (pwP 2147483629 m n)
            obtain ⟨x, hx⟩ : ∃ x, pwP 2147483629 m n = x := ⟨_, rfl⟩
            rw [hx] at eb c0 c1 c2 c3 c4 c5 c6 c7 c8
            cases h1 : decide (x = one)
            all_goals rw [h1] at eb
            all_goals rw [← hx] at h1
            all_goals have q1 : w.heap.size + 1 < wr.heap.size := by omega
            all_goals have q2 : w.heap.size < wr.heap.size := by omega
            all_goals clear hx hlt zs zm fz
            · go_wp2
              refine region_all (by kernel_rfl) (by kernel_rfl) ?_
              repeat (go_big_quiet_step ((go_at_call 10; exact held_of _ (Nat.le_refl _) (identity_any _))))
              refine wpQuiet_nil ?_
              rintro u1 ⟨⟨w0, hbu1⟩, rfl⟩
              obtain ⟨hcu1, hfu1⟩ := bcell hbu1
              have hzu1 := hbu1.size
              try simp at hzu1
              have zu1_0 : w.heap.size < u1.heap.size := by omega
              have zu1_1 : w.heap.size + 1 < u1.heap.size := by omega
              go_wp2
              go_ret
              refine ⟨ret_bool (by unfold powB; rw [h0, h1]; rfl), ?_⟩
              repeat (first | exact Below.refl _ _ | assumption | exact Below.alloc (Below.refl _ _) (Nat.le_refl _) _ | refine Below.setCell ?_ (by first | (simp; done) | (simp; omega) | omega) _ | refine below_drewN ?_ _ | refine Below.alloc ?_ (by first | (simp; done) | (simp; omega) | omega) _ | refine Below.trans ?_ (Below.mono (by assumption) (by first | (simp; done) | (simp; omega) | omega)))
            · go_wp2
              refine region_all (by kernel_rfl) (by kernel_rfl) ?_
              repeat (go_big_quiet_step ((go_at_call 10; exact held_of _ (Nat.le_refl _) (identity_any _))))
              refine wpQuiet_nil ?_
              rintro u1 ⟨⟨w0, hbu1⟩, rfl⟩
              obtain ⟨hcu1, hfu1⟩ := bcell hbu1
              have hzu1 := hbu1.size
              try simp at hzu1
              have zu1_0 : w.heap.size < u1.heap.size := by omega
              have zu1_1 : w.heap.size + 1 < u1.heap.size := by omega
              go_wp2
              have fa0 : u1.cell? ⟨w.heap.size, 0, none⟩ = some (.int .i64 m.p00) := by go_simp
              have fa1 : u1.cell? ⟨w.heap.size, 1, none⟩ = some (.int .i64 m.p01) := by go_simp
              have fa2 : u1.cell? ⟨w.heap.size, 2, none⟩ = some (.int .i64 m.p02) := by go_simp
              have fa3 : u1.cell? ⟨w.heap.size, 3, none⟩ = some (.int .i64 m.p10) := by go_simp
              have fa4 : u1.cell? ⟨w.heap.size, 4, none⟩ = some (.int .i64 m.p11) := by go_simp
              have fa5 : u1.cell? ⟨w.heap.size, 5, none⟩ = some (.int .i64 m.p12) := by go_simp
              have fa6 : u1.cell? ⟨w.heap.size, 6, none⟩ = some (.int .i64 m.p20) := by go_simp
              have fa7 : u1.cell? ⟨w.heap.size, 7, none⟩ = some (.int .i64 m.p21) := by go_simp
              have fa8 : u1.cell? ⟨w.heap.size, 8, none⟩ = some (.int .i64 m.p22) := by go_simp
              have fs0 : u1.cell? ⟨w.heap.size + 1, 0, none⟩ = some (.int .i64 2147483647) := by go_simp
              have fs1 : u1.cell? ⟨w.heap.size + 1, 1, none⟩ = some (.int .i64 2147483629) := by go_simp
              have fs2 : u1.cell? ⟨w.heap.size + 1, 2, none⟩ = some (.int .i64 2147483587) := by go_simp
              have HB1 : Below w.heap.size w u1 := by
                repeat (first | exact Below.refl _ _ | assumption | exact Below.alloc (Below.refl _ _) (Nat.le_refl _) _ | refine Below.setCell ?_ (by first | (simp; done) | (simp; omega) | omega) _ | refine below_drewN ?_ _ | refine Below.alloc ?_ (by first | (simp; done) | (simp; omega) | omega) _ | refine Below.trans ?_ (Below.mono (by assumption) (by first | (simp; done) | (simp; omega) | omega)))
              clear eb zc below a0 c0 a1 c1 a2 c2 a3 c3 a4 c4 a5 c5 a6 c6 a7 c7 a8 c8 s0 s1 s2 hcu1 hfu1
              have a0 := fa0; clear fa0
              have a1 := fa1; clear fa1
              have a2 := fa2; clear fa2
              have a3 := fa3; clear fa3
              have a4 := fa4; clear fa4
              have a5 := fa5; clear fa5
              have a6 := fa6; clear fa6
              have a7 := fa7; clear fa7
              have a8 := fa8; clear fa8
              have s0 := fs0; clear fs0
              have s1 := fs1; clear fs1
              have s2 := fs2; clear fs2
              have below := HB1; clear HB1
              rw [rounds_succ]
              go_wp2_with fail
              refine (identity_any _).mono ?_
              rintro e v2 ⟨rfl, hbv2⟩
              obtain ⟨hcv2, hfv2⟩ := bcell hbv2
              have hzv2 := hbv2.size
              try simp at hzv2
              have zv2_0 : w.heap.size < v2.heap.size := by omega
              have zv2_1 : w.heap.size + 1 < v2.heap.size := by omega
              go_wp2
              go_loopw [21] (fun i wr => ∃ k : Nat, k ≤ n ∧ i = .int .i64 k ∧ PI w w.heap.size w.heap.size (w.heap.size + 1) v2.heap.size m (pwP 2147483587 m k) wr) (fun i _ => n - (intOf i).toNat)
              case atStart =>
                refine ⟨0, by omega, rfl, ?_⟩
                constructor
                · repeat (first | exact Below.refl _ _ | assumption | exact Below.alloc (Below.refl _ _) (Nat.le_refl _) _ | refine Below.setCell ?_ (by first | (simp; done) | (simp; omega) | omega) _ | refine below_drewN ?_ _ | refine Below.alloc ?_ (by first | (simp; done) | (simp; omega) | omega) _ | refine Below.trans ?_ (Below.mono (by assumption) (by first | (simp; done) | (simp; omega) | omega)))
                · first | (simp; done) | (simp; omega) | omega
                · omega
                · omega
                · intro o; go_simp
                all_goals first | (go_simp; done) | (go_simp; rfl)
              case round =>
                obtain ⟨k, hk, rfl, hinv⟩ := hrel
                by_cases hlt : k < n
                · obtain ⟨below, zc, zm, zs, fz, a0, c0, a1, c1, a2, c2, a3, c3, a4, c4, a5, c5, a6, c6, a7, c7, a8, c8, s0, s1, s2⟩ := hinv
                  have zb := below.size
                  have q1 : w.heap.size + 1 < wr.heap.size := by omega
                  have q2 : w.heap.size < wr.heap.size := by omega
                  generalize hx : pwP 2147483587 m k = x at *
                  go_wp2
                  refine wp_loop_rounds 4 ?_
                  rw [rounds_succ]
                  go_wp2
                  refine wp_loop_rounds 4 ?_
                  rw [rounds_succ]
                  go_wp2
                  refine wp_loop_rounds 4 ?_
                  rw [rounds_succ]
                  go_wp2
                  go_quiet (fail)
                  go_wp2
                  rw [rounds_succ]
                  go_wp2
                  go_quiet (fail)
                  go_wp2
                  rw [rounds_succ]
                  go_wp2
                  go_quiet (fail)
                  go_wp2
                  rw [rounds_succ]
                  go_wp2
                  rw [rounds_succ]
                  go_wp2
                  refine wp_loop_rounds 4 ?_
                  rw [rounds_succ]
                  go_wp2
                  go_quiet (fail)
                  go_wp2
                  rw [rounds_succ]
                  go_wp2
                  go_quiet (fail)
                  go_wp2
                  rw [rounds_succ]
                  go_wp2
                  go_quiet (fail)
                  go_wp2
                  rw [rounds_succ]
                  go_wp2
                  rw [rounds_succ]
                  go_wp2
                  refine wp_loop_rounds 4 ?_
                  rw [rounds_succ]
                  go_wp2
                  go_quiet (fail)
                  go_wp2
                  rw [rounds_succ]
                  go_wp2
                  go_quiet (fail)
                  go_wp2
                  rw [rounds_succ]
                  go_wp2
                  go_quiet (fail)
                  go_wp2
                  rw [rounds_succ]
                  go_wp2
                  rw [rounds_succ]
                  go_wp2
                  rw [rounds_succ]
                  go_wp2
                  refine wp_loop_rounds 4 ?_
                  rw [rounds_succ]
                  go_wp2
                  refine wp_loop_rounds 4 ?_
                  rw [rounds_succ]
                  go_wp2
                  go_quiet (fail)
                  go_wp2
                  rw [rounds_succ]
                  go_wp2
                  go_quiet (fail)
                  go_wp2
                  rw [rounds_succ]
                  go_wp2
                  go_quiet (fail)
                  go_wp2
                  rw [rounds_succ]
                  go_wp2
                  rw [rounds_succ]
                  go_wp2
                  refine wp_loop_rounds 4 ?_
                  rw [rounds_succ]
                  go_wp2
                  go_quiet (fail)
                  go_wp2
                  rw [rounds_succ]
                  go_wp2
                  go_quiet (fail)
                  go_wp2
                  rw [rounds_succ]
                  go_wp2
                  go_quiet (fail)
                  go_wp2
                  rw [rounds_succ]
                  go_wp2
                  rw [rounds_succ]
                  go_wp2
                  refine wp_loop_rounds 4 ?_
                  rw [rounds_succ]
                  go_wp2
                  go_quiet (fail)
                  go_wp2
                  rw [rounds_succ]
                  go_wp2
                  go_quiet (fail)
                  go_wp2
                  rw [rounds_succ]
                  go_wp2
                  go_quiet (fail)
                  go_wp2
                  rw [rounds_succ]
                  go_wp2
                  rw [rounds_succ]
                  go_wp2
                  rw [rounds_succ]
                  go_wp2
                  refine wp_loop_rounds 4 ?_
                  rw [rounds_succ]
                  go_wp2
                  refine wp_loop_rounds 4 ?_
                  rw [rounds_succ]
                  go_wp2
                  go_quiet (fail)
                  go_wp2
                  rw [rounds_succ]
                  go_wp2
                  go_quiet (fail)
                  go_wp2
                  rw [rounds_succ]
                  go_wp2
                  go_quiet (fail)
                  go_wp2
                  rw [rounds_succ]
                  go_wp2
                  rw [rounds_succ]
                  go_wp2
                  refine wp_loop_rounds 4 ?_
                  rw [rounds_succ]
                  go_wp2
                  go_quiet (fail)
                  go_wp2
                  rw [rounds_succ]
                  go_wp2
                  go_quiet (fail)
                  go_wp2
                  rw [rounds_succ]
                  go_wp2
                  go_quiet (fail)
                  go_wp2
                  rw [rounds_succ]
                  go_wp2
                  rw [rounds_succ]
                  go_wp2
                  refine wp_loop_rounds 4 ?_
                  rw [rounds_succ]
                  go_wp2
                  go_quiet (fail)
                  go_wp2
                  rw [rounds_succ]
                  go_wp2
                  go_quiet (fail)
                  go_wp2
                  rw [rounds_succ]
                  go_wp2
                  go_quiet (fail)
                  go_wp2
                  rw [rounds_succ]
                  go_wp2
                  rw [rounds_succ]
                  go_wp2
                  rw [rounds_succ]
                  go_wp2
                  go_roundw
                  case rel =>
                    refine ⟨k + 1, by omega, by go_num, ?_⟩
                    constructor
                    · repeat (first | exact Below.refl _ _ | assumption | exact Below.alloc (Below.refl _ _) (Nat.le_refl _) _ | refine Below.setCell ?_ (by first | (simp; done) | (simp; omega) | omega) _ | refine below_drewN ?_ _ | refine Below.alloc ?_ (by first | (simp; done) | (simp; omega) | omega) _ | refine Below.trans ?_ (Below.mono (by assumption) (by first | (simp; done) | (simp; omega) | omega)))
                    · first | (simp; done) | (simp; omega) | omega
                    · omega
                    · omega
                    · intro o; go_simp
                    all_goals first | (go_simp; done) | (go_simp; rfl) | (go_simp; simp [pwP, stP, emP, hx])
                  case measure => simp [intOf] <;> omega
                · obtain rfl : n = k := by omega
                  have PW2 := hinv.below
                  have PB2 := hinv.below.size
                  obtain ⟨below, zc, zm, zs, fz, a0, c0, a1, c1, a2, c2, a3, c3, a4, c4, a5, c5, a6, c6, a7, c7, a8, c8, s0, s1, s2⟩ := hinv
                  have eb := beq_one (pwP 2147483587 m n)
                  obtain ⟨x, hx⟩ : ∃ x, pwP 2147483587 m n = x := ⟨_, rfl⟩
                  rw [hx] at eb c0 c1 c2 c3 c4 c5 c6 c7 c8
                  cases h2 : decide (x = one)
                  all_goals rw [h2] at eb
                  all_goals rw [← hx] at h2
                  all_goals have q1 : w.heap.size + 1 < wr.heap.size := by omega
                  all_goals have q2 : w.heap.size < wr.heap.size := by omega
                  all_goals clear hx hlt zs zm fz
                  · go_wp2
                    refine region_all (by kernel_rfl) (by kernel_rfl) ?_
                    repeat (go_big_quiet_step ((go_at_call 10; exact held_of _ (Nat.le_refl _) (identity_any _))))
                    refine wpQuiet_nil ?_
                    rintro u2 ⟨⟨w0, hbu2⟩, rfl⟩
                    obtain ⟨hcu2, hfu2⟩ := bcell hbu2
                    have hzu2 := hbu2.size
                    try simp at hzu2
                    have zu2_0 : w.heap.size < u2.heap.size := by omega
                    have zu2_1 : w.heap.size + 1 < u2.heap.size := by omega
                    go_wp2
                    go_ret
                    refine ⟨ret_bool (by unfold powB; rw [h0, h1, h2]; rfl), ?_⟩
                    repeat (first | exact Below.refl _ _ | assumption | exact Below.alloc (Below.refl _ _) (Nat.le_refl _) _ | refine Below.setCell ?_ (by first | (simp; done) | (simp; omega) | omega) _ | refine below_drewN ?_ _ | refine Below.alloc ?_ (by first | (simp; done) | (simp; omega) | omega) _ | refine Below.trans ?_ (Below.mono (by assumption) (by first | (simp; done) | (simp; omega) | omega)))
                  · go_wp2
                    refine region_all (by kernel_rfl) (by kernel_rfl) ?_
                    repeat (go_big_quiet_step ((go_at_call 10; exact held_of _ (Nat.le_refl _) (identity_any _))))
                    refine wpQuiet_nil ?_
                    rintro u2 ⟨⟨w0, hbu2⟩, rfl⟩
                    obtain ⟨hcu2, hfu2⟩ := bcell hbu2
                    have hzu2 := hbu2.size
                    try simp at hzu2
                    have zu2_0 : w.heap.size < u2.heap.size := by omega
                    have zu2_1 : w.heap.size + 1 < u2.heap.size := by omega
                    go_wp2
                    have fa0 : u2.cell? ⟨w.heap.size, 0, none⟩ = some (.int .i64 m.p00) := by go_simp
                    have fa1 : u2.cell? ⟨w.heap.size, 1, none⟩ = some (.int .i64 m.p01) := by go_simp
                    have fa2 : u2.cell? ⟨w.heap.size, 2, none⟩ = some (.int .i64 m.p02) := by go_simp
                    have fa3 : u2.cell? ⟨w.heap.size, 3, none⟩ = some (.int .i64 m.p10) := by go_simp
                    have fa4 : u2.cell? ⟨w.heap.size, 4, none⟩ = some (.int .i64 m.p11) := by go_simp
                    have fa5 : u2.cell? ⟨w.heap.size, 5, none⟩ = some (.int .i64 m.p12) := by go_simp
                    have fa6 : u2.cell? ⟨w.heap.size, 6, none⟩ = some (.int .i64 m.p20) := by go_simp
                    have fa7 : u2.cell? ⟨w.heap.size, 7, none⟩ = some (.int .i64 m.p21) := by go_simp
                    have fa8 : u2.cell? ⟨w.heap.size, 8, none⟩ = some (.int .i64 m.p22) := by go_simp
                    have fs0 : u2.cell? ⟨w.heap.size + 1, 0, none⟩ = some (.int .i64 2147483647) := by go_simp
                    have fs1 : u2.cell? ⟨w.heap.size + 1, 1, none⟩ = some (.int .i64 2147483629) := by go_simp
                    have fs2 : u2.cell? ⟨w.heap.size + 1, 2, none⟩ = some (.int .i64 2147483587) := by go_simp
                    have HB2 : Below w.heap.size w u2 := by
                      repeat (first | exact Below.refl _ _ | assumption | exact Below.alloc (Below.refl _ _) (Nat.le_refl _) _ | refine Below.setCell ?_ (by first | (simp; done) | (simp; omega) | omega) _ | refine below_drewN ?_ _ | refine Below.alloc ?_ (by first | (simp; done) | (simp; omega) | omega) _ | refine Below.trans ?_ (Below.mono (by assumption) (by first | (simp; done) | (simp; omega) | omega)))
                    clear eb zc below a0 c0 a1 c1 a2 c2 a3 c3 a4 c4 a5 c5 a6 c6 a7 c7 a8 c8 s0 s1 s2 hcu2 hfu2
                    have a0 := fa0; clear fa0
                    have a1 := fa1; clear fa1
                    have a2 := fa2; clear fa2
                    have a3 := fa3; clear fa3
                    have a4 := fa4; clear fa4
                    have a5 := fa5; clear fa5
                    have a6 := fa6; clear fa6
                    have a7 := fa7; clear fa7
                    have a8 := fa8; clear fa8
                    have s0 := fs0; clear fs0
                    have s1 := fs1; clear fs1
                    have s2 := fs2; clear fs2
                    have below := HB2; clear HB2
                    rw [rounds_succ]
                    go_wp2
                    go_ret
                    refine ⟨ret_bool (by unfold powB; rw [h0, h1, h2]; rfl), ?_⟩
                    repeat (first | exact Below.refl _ _ | assumption | exact Below.alloc (Below.refl _ _) (Nat.le_refl _) _ | refine Below.setCell ?_ (by first | (simp; done) | (simp; omega) | omega) _ | refine below_drewN ?_ _ | refine Below.alloc ?_ (by first | (simp; done) | (simp; omega) | omega) _ | refine Below.trans ?_ (Below.mono (by assumption) (by first | (simp; done) | (simp; omega) | omega)))

end Go.Proofs.Ytjghhgapacnpeaa
