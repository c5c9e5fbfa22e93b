/-
  The law ReduceEnds, walked, where there are steps.
-/
import Derived.Test.YtdhlkhockpblhaaLawEndsA
namespace Go.Proofs.Ytdhlkhockpblhaa
open Go.RowKit
attribute [local irreducible] World.setCell

set_option linter.unusedSimpArgs false
set_option linter.unusedVariables false

set_option maxHeartbeats 12800000 in
set_option maxRecDepth 100000 in
theorem ends_pos (m : Met) (N : Nat) (w : World) (h : chk m = 0) (hN0 : N ≤ 600000) (hN : pick (it m N) = 6) (hl : ∀ k, k < N → pick (it m k) < 6) (h0 : 0 < N):
    Calls Try.prog 6 #[.agg #[.int .i64 m.aa, .int .i64 m.bb, .int .i64 m.cc, .int .i64 m.bc, .int .i64 m.ac, .int .i64 m.ab]] w fun e w' => e = .returned (.bool true) ∧ Below w.heap.size w w' := by
  have ck := chk_ok h
  have A1 := fun w => Obtuse_ok m N (by omega) hN hl w h
  have ef := endsF h hN hl
  have nN := nothE_N ck hN hl
  have i0 : N = 0 → it m N = m ∧ al m N = one := by rintro rfl; exact ⟨rfl, rfl⟩
  obtain ⟨mL, eL⟩ : ∃ x, x = it m N := ⟨_, rfl⟩
  obtain ⟨pL, epL⟩ : ∃ x, x = al m N := ⟨_, rfl⟩
  rw [← eL, ← epL] at A1 ef i0
  clear eL epL hN hl
  obtain ⟨fs, fw, fd, fv, fg0, fg1, fg2, fg3, fg4, fg5⟩ := ef
  have C6 : ∀ w, Calls Try.prog 18 #[.agg #[.int .i64 m.aa, .int .i64 m.bb, .int .i64 m.cc, .int .i64 m.bc, .int .i64 m.ac, .int .i64 m.ab]] w fun e w' => e = .returned (.agg #[.int .i64 (sixE m 0), .int .i64 (sixE m 1), .int .i64 (sixE m 2), .int .i64 (sixE m 3), .int .i64 (sixE m 4), .int .i64 (sixE m 5)]) ∧ Below w.heap.size w w' := fun w => to_v (by simp only [sx_eq ck]; rfl) (six_any m w)
  have L6 : ∀ w, Calls Try.prog 18 #[.agg #[.int .i64 mL.aa, .int .i64 mL.bb, .int .i64 mL.cc, .int .i64 mL.bc, .int .i64 mL.ac, .int .i64 mL.ab]] w fun e w' => e = .returned (.agg #[.int .i64 (sx mL 0), .int .i64 (sx mL 1), .int .i64 (sx mL 2), .int .i64 (sx mL 3), .int .i64 (sx mL 4), .int .i64 (sx mL 5)]) ∧ Below w.heap.size w w' := fun w => to_v (by rw [show sx mL 0 = mL.bc from fw.2.2.2.1, show sx mL 1 = mL.ac from fw.2.2.2.2.1, show sx mL 2 = mL.ab from fw.2.2.2.2.2]) (six_any mL w)
  have G0 := fg0
  have G1 := fg1
  have G2 := fg2
  have G3 := fg3
  have G4 := fg4
  have G5 := fg5
  have DT : ∀ w, Calls Try.prog 22 #[.agg #[.int .i64 pL.p00, .int .i64 pL.p01, .int .i64 pL.p02, .int .i64 pL.p10, .int .i64 pL.p11, .int .i64 pL.p12, .int .i64 pL.p20, .int .i64 pL.p21, .int .i64 pL.p22]] w fun e w' => e = .returned (.int .i64 (1 - 2 * ((N : Int) % 2))) ∧ Below w.heap.size w w' := fun w => to_v (congrArg (Value.int .i64) fd) (r1det_any _ _ _ _ _ _ _ _ _ w)
  have D1 := fun w => Det_ok m w h
  have D2 : ∀ w, chk mL = 0 → Calls Try.prog 20 #[.agg #[.int .i64 mL.aa, .int .i64 mL.bb, .int .i64 mL.cc, .int .i64 mL.bc, .int .i64 mL.ac, .int .i64 mL.ab]] w fun e w' => e = .returned (.tuple #[.int .i64 (dv m), .int .i64 0]) ∧ Below w.heap.size w w' := fun w hc => to_v (by rw [fv]) (Det_ok mL w hc)
  have B1 := Lib.hid A1; have H6 := Lib.hid C6; have HL := Lib.hid L6; have HD := Lib.hid DT; have HD1 := Lib.hid D1; have HD2 := Lib.hid D2; have NN := Lib.hid nN; have I0 := Lib.hid i0; have HG0 := Lib.hid G0; have HG1 := Lib.hid G1; have HG2 := Lib.hid G2; have HG3 := Lib.hid G3; have HG4 := Lib.hid G4; have HG5 := Lib.hid G5; clear A1 C6 L6 DT D1 D2 nN i0 G0 fg0 G1 fg1 G2 fg2 G3 fg3 G4 fg4 G5 fg5 fd fv fw ck
  obtain ⟨t0, et0⟩ : ∃ x, x = sx mL 0 := ⟨_, rfl⟩
  obtain ⟨t1, et1⟩ : ∃ x, x = sx mL 1 := ⟨_, rfl⟩
  obtain ⟨t2, et2⟩ : ∃ x, x = sx mL 2 := ⟨_, rfl⟩
  obtain ⟨t3, et3⟩ : ∃ x, x = sx mL 3 := ⟨_, rfl⟩
  obtain ⟨t4, et4⟩ : ∃ x, x = sx mL 4 := ⟨_, rfl⟩
  obtain ⟨t5, et5⟩ : ∃ x, x = sx mL 5 := ⟨_, rfl⟩
  have ft0 := fs 0 (by omega)
  have ft1 := fs 1 (by omega)
  have ft2 := fs 2 (by omega)
  have ft3 := fs 3 (by omega)
  have ft4 := fs 4 (by omega)
  have ft5 := fs 5 (by omega)
  rw [← et0] at ft0
  rw [← et1] at ft1
  rw [← et2] at ft2
  rw [← et3] at ft3
  rw [← et4] at ft4
  rw [← et5] at ft5
  rw [← et0, ← et1, ← et2, ← et3, ← et4, ← et5] at HL
  clear fs et0 et1 et2 et3 et4 et5
  go_enter Try.func6, Try.ntmps6
  go_wp2_with fail
  refine (awake_any _).mono ?_
  rintro e w1 ⟨rfl, hb1⟩
  obtain ⟨hc1, hf1⟩ := bcell hb1
  have hz1 := hb1.size
  try simp at hz1
  have z1_0 : w.heap.size < w1.heap.size := by omega
  go_wp2_with fail
  refine (B1.out _).mono ?_
  rintro e w2 ⟨rfl, hb2⟩
  obtain ⟨hc2, hf2⟩ := bcell hb2
  have hz2 := hb2.size
  try simp at hz2
  have z2_0 : w.heap.size < w2.heap.size := by omega
  go_wp2_with fail
  refine (HD1.out _).mono ?_
  rintro e w3 ⟨rfl, hb3⟩
  obtain ⟨hc3, hf3⟩ := bcell hb3
  have hz3 := hb3.size
  try simp at hz3
  have z3_0 : w.heap.size < w3.heap.size := by omega
  have z3_1 : w2.heap.size < w3.heap.size := by omega
  have z3_2 : w2.heap.size + 1 < w3.heap.size := by omega
  have y3_0 : w.heap.size < w2.heap.size + 1 + 1 := by omega
  go_wp2_with fail
  refine (HL.out _).mono ?_
  rintro e w4 ⟨rfl, hb4⟩
  obtain ⟨hc4, hf4⟩ := bcell hb4
  have hz4 := hb4.size
  try simp at hz4
  have z4_0 : w.heap.size < w4.heap.size := by omega
  have z4_1 : w2.heap.size < w4.heap.size := by omega
  have z4_2 : w2.heap.size + 1 < w4.heap.size := by omega
  go_wp2
  go_loopw [52, 9] (fun i c wr => ∃ k : Nat, k ≤ 6 ∧ i = .int .i64 k ∧ c = .bool (nothE m k) ∧ EI w w.heap.size w2.heap.size m mL pL wr) (fun i _ _ => 6 - (intOf i).toNat)
  case atStart =>
    refine ⟨0, by omega, rfl, (by congr 1), ?_⟩
    constructor
    · repeat (first | exact Below.refl _ _ | assumption | exact Below.alloc (Below.refl _ _) (Nat.le_refl _) _ | refine Below.setCell ?_ (by first | (simp; done) | (simp; omega) | omega) _ | refine below_drewN ?_ _ | refine Below.alloc ?_ (by first | (simp; done) | (simp; omega) | omega) _ | refine Below.trans ?_ (Below.mono (by assumption) (by first | (simp; done) | (simp; omega) | omega)))
    · first | (simp; done) | (simp; omega) | omega
    all_goals first | (go_simp; done) | (go_simp; rfl)
  case round =>
    obtain ⟨k, hk, rfl, rfl, hinv⟩ := hrel
    by_cases hlt : k < 6
    · have HN := Lib.hid hinv
      obtain ⟨hbl, zl, l0, a0, l1, a1, l2, a2, l3, a3, l4, a4, l5, a5, p0, p1, p2, p3, p4, p5, p6, p7, p8⟩ := hinv
      have zb := hbl.size
      have zw : w.heap.size < wr.heap.size := by omega
      have zv : w2.heap.size < wr.heap.size := by omega
      have ns := nothE_succ m k
      have NS := Lib.hid ns; clear ns
      rcases (by omega : k = 0 ∨ k = 1 ∨ k = 2 ∨ k = 3 ∨ k = 4 ∨ k = 5) with rfl | rfl | rfl | rfl | rfl | rfl
      · rcases Bool.eq_false_or_eq_true (nothE m 0) with hc | hc
        all_goals rw [hc]
        · rcases Int.lt_or_le 0 (sixE m 0) with hs | hs
          · have hd : decide (sixE m 0 ≤ 0) = false := decide_eq_false (by omega)
            go_wp2_with fail
            refine (H6.out _).mono ?_
            rintro e w30 ⟨rfl, hb30⟩
            obtain ⟨hc30, hf30⟩ := bcell hb30
            have hz30 := hb30.size
            try simp at hz30
            have z30_0 : w.heap.size < w30.heap.size := by omega
            have z30_1 : w2.heap.size < w30.heap.size := by omega
            have z30_2 : w2.heap.size + 1 < w30.heap.size := by omega
            go_wp2
            go_roundw
            case rel =>
              refine ⟨0 + 1, by omega, by go_num, (by rw [NS.out, hc, hd]; rfl), ?_⟩
              constructor
              · repeat (first | exact Below.refl _ _ | assumption | exact Below.alloc (Below.refl _ _) (Nat.le_refl _) _ | refine Below.setCell ?_ (by first | (simp; done) | (simp; omega) | omega) _ | refine below_drewN ?_ _ | refine Below.alloc ?_ (by first | (simp; done) | (simp; omega) | omega) _ | refine Below.trans ?_ (Below.mono (by assumption) (by first | (simp; done) | (simp; omega) | omega)))
              · first | (simp; done) | (simp; omega) | omega
              all_goals first | (go_simp; done) | (go_simp; rfl)
            case measure => simp [intOf] <;> omega
          · have hd : decide (sixE m 0 ≤ 0) = true := decide_eq_true hs
            go_wp2_with fail
            refine (H6.out _).mono ?_
            rintro e w30 ⟨rfl, hb30⟩
            obtain ⟨hc30, hf30⟩ := bcell hb30
            have hz30 := hb30.size
            try simp at hz30
            have z30_0 : w.heap.size < w30.heap.size := by omega
            have z30_1 : w2.heap.size < w30.heap.size := by omega
            have z30_2 : w2.heap.size + 1 < w30.heap.size := by omega
            go_wp2
            go_roundw
            case rel =>
              refine ⟨0 + 1, by omega, by go_num, (by rw [NS.out, hc, hd]; rfl), ?_⟩
              constructor
              · repeat (first | exact Below.refl _ _ | assumption | exact Below.alloc (Below.refl _ _) (Nat.le_refl _) _ | refine Below.setCell ?_ (by first | (simp; done) | (simp; omega) | omega) _ | refine below_drewN ?_ _ | refine Below.alloc ?_ (by first | (simp; done) | (simp; omega) | omega) _ | refine Below.trans ?_ (Below.mono (by assumption) (by first | (simp; done) | (simp; omega) | omega)))
              · first | (simp; done) | (simp; omega) | omega
              all_goals first | (go_simp; done) | (go_simp; rfl)
            case measure => simp [intOf] <;> omega
        · go_wp2
      · rcases Bool.eq_false_or_eq_true (nothE m 1) with hc | hc
        all_goals rw [hc]
        · rcases Int.lt_or_le 0 (sixE m 1) with hs | hs
          · have hd : decide (sixE m 1 ≤ 0) = false := decide_eq_false (by omega)
            go_wp2_with fail
            refine (H6.out _).mono ?_
            rintro e w30 ⟨rfl, hb30⟩
            obtain ⟨hc30, hf30⟩ := bcell hb30
            have hz30 := hb30.size
            try simp at hz30
            have z30_0 : w.heap.size < w30.heap.size := by omega
            have z30_1 : w2.heap.size < w30.heap.size := by omega
            have z30_2 : w2.heap.size + 1 < w30.heap.size := by omega
            go_wp2
            go_roundw
            case rel =>
              refine ⟨1 + 1, by omega, by go_num, (by rw [NS.out, hc, hd]; rfl), ?_⟩
              constructor
              · repeat (first | exact Below.refl _ _ | assumption | exact Below.alloc (Below.refl _ _) (Nat.le_refl _) _ | refine Below.setCell ?_ (by first | (simp; done) | (simp; omega) | omega) _ | refine below_drewN ?_ _ | refine Below.alloc ?_ (by first | (simp; done) | (simp; omega) | omega) _ | refine Below.trans ?_ (Below.mono (by assumption) (by first | (simp; done) | (simp; omega) | omega)))
              · first | (simp; done) | (simp; omega) | omega
              all_goals first | (go_simp; done) | (go_simp; rfl)
            case measure => simp [intOf] <;> omega
          · have hd : decide (sixE m 1 ≤ 0) = true := decide_eq_true hs
            go_wp2_with fail
            refine (H6.out _).mono ?_
            rintro e w30 ⟨rfl, hb30⟩
            obtain ⟨hc30, hf30⟩ := bcell hb30
            have hz30 := hb30.size
            try simp at hz30
            have z30_0 : w.heap.size < w30.heap.size := by omega
            have z30_1 : w2.heap.size < w30.heap.size := by omega
            have z30_2 : w2.heap.size + 1 < w30.heap.size := by omega
            go_wp2
            go_roundw
            case rel =>
              refine ⟨1 + 1, by omega, by go_num, (by rw [NS.out, hc, hd]; rfl), ?_⟩
              constructor
              · repeat (first | exact Below.refl _ _ | assumption | exact Below.alloc (Below.refl _ _) (Nat.le_refl _) _ | refine Below.setCell ?_ (by first | (simp; done) | (simp; omega) | omega) _ | refine below_drewN ?_ _ | refine Below.alloc ?_ (by first | (simp; done) | (simp; omega) | omega) _ | refine Below.trans ?_ (Below.mono (by assumption) (by first | (simp; done) | (simp; omega) | omega)))
              · first | (simp; done) | (simp; omega) | omega
              all_goals first | (go_simp; done) | (go_simp; rfl)
            case measure => simp [intOf] <;> omega
        · go_wp2
          go_roundw
          case rel =>
            refine ⟨1 + 1, by omega, by go_num, (by rw [NS.out, hc]; rfl), ?_⟩
            constructor
            · repeat (first | exact Below.refl _ _ | assumption | exact Below.alloc (Below.refl _ _) (Nat.le_refl _) _ | refine Below.setCell ?_ (by first | (simp; done) | (simp; omega) | omega) _ | refine below_drewN ?_ _ | refine Below.alloc ?_ (by first | (simp; done) | (simp; omega) | omega) _ | refine Below.trans ?_ (Below.mono (by assumption) (by first | (simp; done) | (simp; omega) | omega)))
            · first | (simp; done) | (simp; omega) | omega
            all_goals first | (go_simp; done) | (go_simp; rfl)
          case measure => simp [intOf] <;> omega
      · rcases Bool.eq_false_or_eq_true (nothE m 2) with hc | hc
        all_goals rw [hc]
        · rcases Int.lt_or_le 0 (sixE m 2) with hs | hs
          · have hd : decide (sixE m 2 ≤ 0) = false := decide_eq_false (by omega)
            go_wp2_with fail
            refine (H6.out _).mono ?_
            rintro e w30 ⟨rfl, hb30⟩
            obtain ⟨hc30, hf30⟩ := bcell hb30
            have hz30 := hb30.size
            try simp at hz30
            have z30_0 : w.heap.size < w30.heap.size := by omega
            have z30_1 : w2.heap.size < w30.heap.size := by omega
            have z30_2 : w2.heap.size + 1 < w30.heap.size := by omega
            go_wp2
            go_roundw
            case rel =>
              refine ⟨2 + 1, by omega, by go_num, (by rw [NS.out, hc, hd]; rfl), ?_⟩
              constructor
              · repeat (first | exact Below.refl _ _ | assumption | exact Below.alloc (Below.refl _ _) (Nat.le_refl _) _ | refine Below.setCell ?_ (by first | (simp; done) | (simp; omega) | omega) _ | refine below_drewN ?_ _ | refine Below.alloc ?_ (by first | (simp; done) | (simp; omega) | omega) _ | refine Below.trans ?_ (Below.mono (by assumption) (by first | (simp; done) | (simp; omega) | omega)))
              · first | (simp; done) | (simp; omega) | omega
              all_goals first | (go_simp; done) | (go_simp; rfl)
            case measure => simp [intOf] <;> omega
          · have hd : decide (sixE m 2 ≤ 0) = true := decide_eq_true hs
            go_wp2_with fail
            refine (H6.out _).mono ?_
            rintro e w30 ⟨rfl, hb30⟩
            obtain ⟨hc30, hf30⟩ := bcell hb30
            have hz30 := hb30.size
            try simp at hz30
            have z30_0 : w.heap.size < w30.heap.size := by omega
            have z30_1 : w2.heap.size < w30.heap.size := by omega
            have z30_2 : w2.heap.size + 1 < w30.heap.size := by omega
            go_wp2
            go_roundw
            case rel =>
              refine ⟨2 + 1, by omega, by go_num, (by rw [NS.out, hc, hd]; rfl), ?_⟩
              constructor
              · repeat (first | exact Below.refl _ _ | assumption | exact Below.alloc (Below.refl _ _) (Nat.le_refl _) _ | refine Below.setCell ?_ (by first | (simp; done) | (simp; omega) | omega) _ | refine below_drewN ?_ _ | refine Below.alloc ?_ (by first | (simp; done) | (simp; omega) | omega) _ | refine Below.trans ?_ (Below.mono (by assumption) (by first | (simp; done) | (simp; omega) | omega)))
              · first | (simp; done) | (simp; omega) | omega
              all_goals first | (go_simp; done) | (go_simp; rfl)
            case measure => simp [intOf] <;> omega
        · go_wp2
          go_roundw
          case rel =>
            refine ⟨2 + 1, by omega, by go_num, (by rw [NS.out, hc]; rfl), ?_⟩
            constructor
            · repeat (first | exact Below.refl _ _ | assumption | exact Below.alloc (Below.refl _ _) (Nat.le_refl _) _ | refine Below.setCell ?_ (by first | (simp; done) | (simp; omega) | omega) _ | refine below_drewN ?_ _ | refine Below.alloc ?_ (by first | (simp; done) | (simp; omega) | omega) _ | refine Below.trans ?_ (Below.mono (by assumption) (by first | (simp; done) | (simp; omega) | omega)))
            · first | (simp; done) | (simp; omega) | omega
            all_goals first | (go_simp; done) | (go_simp; rfl)
          case measure => simp [intOf] <;> omega
      · rcases Bool.eq_false_or_eq_true (nothE m 3) with hc | hc
        all_goals rw [hc]
        · rcases Int.lt_or_le 0 (sixE m 3) with hs | hs
          · have hd : decide (sixE m 3 ≤ 0) = false := decide_eq_false (by omega)
            go_wp2_with fail
            refine (H6.out _).mono ?_
            rintro e w30 ⟨rfl, hb30⟩
            obtain ⟨hc30, hf30⟩ := bcell hb30
            have hz30 := hb30.size
            try simp at hz30
            have z30_0 : w.heap.size < w30.heap.size := by omega
            have z30_1 : w2.heap.size < w30.heap.size := by omega
            have z30_2 : w2.heap.size + 1 < w30.heap.size := by omega
            go_wp2
            go_roundw
            case rel =>
              refine ⟨3 + 1, by omega, by go_num, (by rw [NS.out, hc, hd]; rfl), ?_⟩
              constructor
              · repeat (first | exact Below.refl _ _ | assumption | exact Below.alloc (Below.refl _ _) (Nat.le_refl _) _ | refine Below.setCell ?_ (by first | (simp; done) | (simp; omega) | omega) _ | refine below_drewN ?_ _ | refine Below.alloc ?_ (by first | (simp; done) | (simp; omega) | omega) _ | refine Below.trans ?_ (Below.mono (by assumption) (by first | (simp; done) | (simp; omega) | omega)))
              · first | (simp; done) | (simp; omega) | omega
              all_goals first | (go_simp; done) | (go_simp; rfl)
            case measure => simp [intOf] <;> omega
          · have hd : decide (sixE m 3 ≤ 0) = true := decide_eq_true hs
            go_wp2_with fail
            refine (H6.out _).mono ?_
            rintro e w30 ⟨rfl, hb30⟩
            obtain ⟨hc30, hf30⟩ := bcell hb30
            have hz30 := hb30.size
            try simp at hz30
            have z30_0 : w.heap.size < w30.heap.size := by omega
            have z30_1 : w2.heap.size < w30.heap.size := by omega
            have z30_2 : w2.heap.size + 1 < w30.heap.size := by omega
            go_wp2
            go_roundw
            case rel =>
              refine ⟨3 + 1, by omega, by go_num, (by rw [NS.out, hc, hd]; rfl), ?_⟩
              constructor
              · repeat (first | exact Below.refl _ _ | assumption | exact Below.alloc (Below.refl _ _) (Nat.le_refl _) _ | refine Below.setCell ?_ (by first | (simp; done) | (simp; omega) | omega) _ | refine below_drewN ?_ _ | refine Below.alloc ?_ (by first | (simp; done) | (simp; omega) | omega) _ | refine Below.trans ?_ (Below.mono (by assumption) (by first | (simp; done) | (simp; omega) | omega)))
              · first | (simp; done) | (simp; omega) | omega
              all_goals first | (go_simp; done) | (go_simp; rfl)
            case measure => simp [intOf] <;> omega
        · go_wp2
          go_roundw
          case rel =>
            refine ⟨3 + 1, by omega, by go_num, (by rw [NS.out, hc]; rfl), ?_⟩
            constructor
            · repeat (first | exact Below.refl _ _ | assumption | exact Below.alloc (Below.refl _ _) (Nat.le_refl _) _ | refine Below.setCell ?_ (by first | (simp; done) | (simp; omega) | omega) _ | refine below_drewN ?_ _ | refine Below.alloc ?_ (by first | (simp; done) | (simp; omega) | omega) _ | refine Below.trans ?_ (Below.mono (by assumption) (by first | (simp; done) | (simp; omega) | omega)))
            · first | (simp; done) | (simp; omega) | omega
            all_goals first | (go_simp; done) | (go_simp; rfl)
          case measure => simp [intOf] <;> omega
      · rcases Bool.eq_false_or_eq_true (nothE m 4) with hc | hc
        all_goals rw [hc]
        · rcases Int.lt_or_le 0 (sixE m 4) with hs | hs
          · have hd : decide (sixE m 4 ≤ 0) = false := decide_eq_false (by omega)
            go_wp2_with fail
            refine (H6.out _).mono ?_
            rintro e w30 ⟨rfl, hb30⟩
            obtain ⟨hc30, hf30⟩ := bcell hb30
            have hz30 := hb30.size
            try simp at hz30
            have z30_0 : w.heap.size < w30.heap.size := by omega
            have z30_1 : w2.heap.size < w30.heap.size := by omega
            have z30_2 : w2.heap.size + 1 < w30.heap.size := by omega
            go_wp2
            go_roundw
            case rel =>
              refine ⟨4 + 1, by omega, by go_num, (by rw [NS.out, hc, hd]; rfl), ?_⟩
              constructor
              · repeat (first | exact Below.refl _ _ | assumption | exact Below.alloc (Below.refl _ _) (Nat.le_refl _) _ | refine Below.setCell ?_ (by first | (simp; done) | (simp; omega) | omega) _ | refine below_drewN ?_ _ | refine Below.alloc ?_ (by first | (simp; done) | (simp; omega) | omega) _ | refine Below.trans ?_ (Below.mono (by assumption) (by first | (simp; done) | (simp; omega) | omega)))
              · first | (simp; done) | (simp; omega) | omega
              all_goals first | (go_simp; done) | (go_simp; rfl)
            case measure => simp [intOf] <;> omega
          · have hd : decide (sixE m 4 ≤ 0) = true := decide_eq_true hs
            go_wp2_with fail
            refine (H6.out _).mono ?_
            rintro e w30 ⟨rfl, hb30⟩
            obtain ⟨hc30, hf30⟩ := bcell hb30
            have hz30 := hb30.size
            try simp at hz30
            have z30_0 : w.heap.size < w30.heap.size := by omega
            have z30_1 : w2.heap.size < w30.heap.size := by omega
            have z30_2 : w2.heap.size + 1 < w30.heap.size := by omega
            go_wp2
            go_roundw
            case rel =>
              refine ⟨4 + 1, by omega, by go_num, (by rw [NS.out, hc, hd]; rfl), ?_⟩
              constructor
              · repeat (first | exact Below.refl _ _ | assumption | exact Below.alloc (Below.refl _ _) (Nat.le_refl _) _ | refine Below.setCell ?_ (by first | (simp; done) | (simp; omega) | omega) _ | refine below_drewN ?_ _ | refine Below.alloc ?_ (by first | (simp; done) | (simp; omega) | omega) _ | refine Below.trans ?_ (Below.mono (by assumption) (by first | (simp; done) | (simp; omega) | omega)))
              · first | (simp; done) | (simp; omega) | omega
              all_goals first | (go_simp; done) | (go_simp; rfl)
            case measure => simp [intOf] <;> omega
        · go_wp2
          go_roundw
          case rel =>
            refine ⟨4 + 1, by omega, by go_num, (by rw [NS.out, hc]; rfl), ?_⟩
            constructor
            · repeat (first | exact Below.refl _ _ | assumption | exact Below.alloc (Below.refl _ _) (Nat.le_refl _) _ | refine Below.setCell ?_ (by first | (simp; done) | (simp; omega) | omega) _ | refine below_drewN ?_ _ | refine Below.alloc ?_ (by first | (simp; done) | (simp; omega) | omega) _ | refine Below.trans ?_ (Below.mono (by assumption) (by first | (simp; done) | (simp; omega) | omega)))
            · first | (simp; done) | (simp; omega) | omega
            all_goals first | (go_simp; done) | (go_simp; rfl)
          case measure => simp [intOf] <;> omega
      · rcases Bool.eq_false_or_eq_true (nothE m 5) with hc | hc
        all_goals rw [hc]
        · rcases Int.lt_or_le 0 (sixE m 5) with hs | hs
          · have hd : decide (sixE m 5 ≤ 0) = false := decide_eq_false (by omega)
            go_wp2_with fail
            refine (H6.out _).mono ?_
            rintro e w30 ⟨rfl, hb30⟩
            obtain ⟨hc30, hf30⟩ := bcell hb30
            have hz30 := hb30.size
            try simp at hz30
            have z30_0 : w.heap.size < w30.heap.size := by omega
            have z30_1 : w2.heap.size < w30.heap.size := by omega
            have z30_2 : w2.heap.size + 1 < w30.heap.size := by omega
            go_wp2
            go_roundw
            case rel =>
              refine ⟨5 + 1, by omega, by go_num, (by rw [NS.out, hc, hd]; rfl), ?_⟩
              constructor
              · repeat (first | exact Below.refl _ _ | assumption | exact Below.alloc (Below.refl _ _) (Nat.le_refl _) _ | refine Below.setCell ?_ (by first | (simp; done) | (simp; omega) | omega) _ | refine below_drewN ?_ _ | refine Below.alloc ?_ (by first | (simp; done) | (simp; omega) | omega) _ | refine Below.trans ?_ (Below.mono (by assumption) (by first | (simp; done) | (simp; omega) | omega)))
              · first | (simp; done) | (simp; omega) | omega
              all_goals first | (go_simp; done) | (go_simp; rfl)
            case measure => simp [intOf] <;> omega
          · have hd : decide (sixE m 5 ≤ 0) = true := decide_eq_true hs
            go_wp2_with fail
            refine (H6.out _).mono ?_
            rintro e w30 ⟨rfl, hb30⟩
            obtain ⟨hc30, hf30⟩ := bcell hb30
            have hz30 := hb30.size
            try simp at hz30
            have z30_0 : w.heap.size < w30.heap.size := by omega
            have z30_1 : w2.heap.size < w30.heap.size := by omega
            have z30_2 : w2.heap.size + 1 < w30.heap.size := by omega
            go_wp2
            go_roundw
            case rel =>
              refine ⟨5 + 1, by omega, by go_num, (by rw [NS.out, hc, hd]; rfl), ?_⟩
              constructor
              · repeat (first | exact Below.refl _ _ | assumption | exact Below.alloc (Below.refl _ _) (Nat.le_refl _) _ | refine Below.setCell ?_ (by first | (simp; done) | (simp; omega) | omega) _ | refine below_drewN ?_ _ | refine Below.alloc ?_ (by first | (simp; done) | (simp; omega) | omega) _ | refine Below.trans ?_ (Below.mono (by assumption) (by first | (simp; done) | (simp; omega) | omega)))
              · first | (simp; done) | (simp; omega) | omega
              all_goals first | (go_simp; done) | (go_simp; rfl)
            case measure => simp [intOf] <;> omega
        · go_wp2
          go_roundw
          case rel =>
            refine ⟨5 + 1, by omega, by go_num, (by rw [NS.out, hc]; rfl), ?_⟩
            constructor
            · repeat (first | exact Below.refl _ _ | assumption | exact Below.alloc (Below.refl _ _) (Nat.le_refl _) _ | refine Below.setCell ?_ (by first | (simp; done) | (simp; omega) | omega) _ | refine below_drewN ?_ _ | refine Below.alloc ?_ (by first | (simp; done) | (simp; omega) | omega) _ | refine Below.trans ?_ (Below.mono (by assumption) (by first | (simp; done) | (simp; omega) | omega)))
            · first | (simp; done) | (simp; omega) | omega
            all_goals first | (go_simp; done) | (go_simp; rfl)
          case measure => simp [intOf] <;> omega
    · obtain ⟨hbl, zl, l0, a0, l1, a1, l2, a2, l3, a3, l4, a4, l5, a5, p0, p1, p2, p3, p4, p5, p6, p7, p8⟩ := hinv
      have zb := hbl.size
      have zw : w.heap.size < wr.heap.size := by omega
      have zv : w2.heap.size < wr.heap.size := by omega
      obtain rfl : k = 6 := by omega
      rw [NN.out]
      have zuv : w.heap.size < w2.heap.size := by omega
      have zwv : w2.heap.size + 1 < wr.heap.size := zl
      try clear hb1
      try clear hc1
      try clear hf1
      try clear hz1
      try clear hb2
      try clear hc2
      try clear hf2
      try clear hz2
      try clear hb3
      try clear hc3
      try clear hf3
      try clear hz3
      try clear hb4
      try clear hc4
      try clear hf4
      try clear hz4
      try clear z1_0
      try clear z1_1
      try clear z1_2
      try clear z1_3
      try clear z1_4
      try clear z1_5
      try clear z1_6
      try clear z1_7
      try clear z2_0
      try clear z2_1
      try clear z2_2
      try clear z2_3
      try clear z2_4
      try clear z2_5
      try clear z2_6
      try clear z2_7
      try clear z3_0
      try clear z3_1
      try clear z3_2
      try clear z3_3
      try clear z3_4
      try clear z3_5
      try clear z3_6
      try clear z3_7
      try clear z4_0
      try clear z4_1
      try clear z4_2
      try clear z4_3
      try clear z4_4
      try clear z4_5
      try clear z4_6
      try clear z4_7
      have ea : (N : Int).tmod 2 = (N : Int) % 2 := Int.tmod_eq_emod_of_nonneg (by omega)
      have r0 : 0 ≤ (N : Int) % 2 := by omega
      have r1 : (N : Int) % 2 < 2 := by omega
      have hn : ¬ N = 0 := by omega
      have hd : decide (N = 0) = false := decide_eq_false hn
      have hd2 : decide ((N : Int) = 0) = false := decide_eq_false (by omega)
      have hd3 : ((N : Int) == 0) = false := by rw [beq_eq_false_iff_ne]; omega
      rw [hd]
      clear I0
      go_wp2
      have zzx0_0 : w.heap.size < wr.heap.size + 1 := by omega
      have zzx0_1 : w2.heap.size < wr.heap.size + 1 := by omega
      have zzx0_2 : w2.heap.size + 1 < wr.heap.size + 1 := by omega
      refine region_all (by kernel_rfl) (by kernel_rfl) ?_
      repeat (go_big_quiet_step (fail))
      refine wpQuiet_nil ?_
      rintro x0 ⟨⟨w0, hbx0⟩, rfl⟩
      obtain ⟨hcx0, hfx0⟩ := bcell hbx0
      have hzx0 := hbx0.size
      try simp at hzx0
      have zx0_0 : w.heap.size < x0.heap.size := by omega
      have zx0_1 : w2.heap.size < x0.heap.size := by omega
      have zx0_2 : w2.heap.size + 1 < x0.heap.size := by omega
      go_wp2_with fail
      refine (HD.out _).mono ?_
      rintro e w50 ⟨rfl, hb50⟩
      obtain ⟨hc50, hf50⟩ := bcell hb50
      have hz50 := hb50.size
      try simp at hz50
      have z50_0 : w.heap.size < w50.heap.size := by omega
      have z50_1 : w2.heap.size < w50.heap.size := by omega
      have z50_2 : w2.heap.size + 1 < w50.heap.size := by omega
      go_wp2
      refine wp_loop_rounds 4 ?_
      rw [rounds_succ]
      go_wp2
      refine wp_loop_rounds 4 ?_
      rw [rounds_succ]
      go_wp2
      refine region_headq 9 (by kernel_rfl) (by kernel_rfl) ?_
      simp only [List.take_succ_cons, List.take_zero, List.drop_succ_cons, List.drop_zero]
      repeat (go_big_quiet_step (fail))
      refine wpQuiet_nil ?_
      rintro _ ⟨nq, rfl⟩
      go_wp2
      rw [rounds_succ]
      go_wp2
      refine region_headq 9 (by kernel_rfl) (by kernel_rfl) ?_
      simp only [List.take_succ_cons, List.take_zero, List.drop_succ_cons, List.drop_zero]
      repeat (go_big_quiet_step (fail))
      refine wpQuiet_nil ?_
      rintro _ ⟨nq, rfl⟩
      go_wp2
      rw [rounds_succ]
      go_wp2
      refine region_headq 9 (by kernel_rfl) (by kernel_rfl) ?_
      simp only [List.take_succ_cons, List.take_zero, List.drop_succ_cons, List.drop_zero]
      repeat (go_big_quiet_step (fail))
      refine wpQuiet_nil ?_
      rintro _ ⟨nq, rfl⟩
      go_wp2
      rw [rounds_succ]
      go_wp2
      rw [rounds_succ]
      go_wp2
      refine wp_loop_rounds 4 ?_
      rw [rounds_succ]
      go_wp2
      refine region_headq 9 (by kernel_rfl) (by kernel_rfl) ?_
      simp only [List.take_succ_cons, List.take_zero, List.drop_succ_cons, List.drop_zero]
      repeat (go_big_quiet_step (fail))
      refine wpQuiet_nil ?_
      rintro _ ⟨nq, rfl⟩
      go_wp2
      rw [rounds_succ]
      go_wp2
      refine region_headq 9 (by kernel_rfl) (by kernel_rfl) ?_
      simp only [List.take_succ_cons, List.take_zero, List.drop_succ_cons, List.drop_zero]
      repeat (go_big_quiet_step (fail))
      refine wpQuiet_nil ?_
      rintro _ ⟨nq, rfl⟩
      go_wp2
      rw [rounds_succ]
      go_wp2
      refine region_headq 9 (by kernel_rfl) (by kernel_rfl) ?_
      simp only [List.take_succ_cons, List.take_zero, List.drop_succ_cons, List.drop_zero]
      repeat (go_big_quiet_step (fail))
      refine wpQuiet_nil ?_
      rintro _ ⟨nq, rfl⟩
      go_wp2
      rw [rounds_succ]
      go_wp2
      rw [rounds_succ]
      go_wp2
      refine wp_loop_rounds 4 ?_
      rw [rounds_succ]
      go_wp2
      refine region_headq 9 (by kernel_rfl) (by kernel_rfl) ?_
      simp only [List.take_succ_cons, List.take_zero, List.drop_succ_cons, List.drop_zero]
      repeat (go_big_quiet_step (fail))
      refine wpQuiet_nil ?_
      rintro _ ⟨nq, rfl⟩
      go_wp2
      rw [rounds_succ]
      go_wp2
      refine region_headq 9 (by kernel_rfl) (by kernel_rfl) ?_
      simp only [List.take_succ_cons, List.take_zero, List.drop_succ_cons, List.drop_zero]
      repeat (go_big_quiet_step (fail))
      refine wpQuiet_nil ?_
      rintro _ ⟨nq, rfl⟩
      go_wp2
      rw [rounds_succ]
      go_wp2
      refine region_headq 9 (by kernel_rfl) (by kernel_rfl) ?_
      simp only [List.take_succ_cons, List.take_zero, List.drop_succ_cons, List.drop_zero]
      repeat (go_big_quiet_step (fail))
      refine wpQuiet_nil ?_
      rintro _ ⟨nq, rfl⟩
      go_wp2
      rw [rounds_succ]
      go_wp2
      rw [rounds_succ]
      go_wp2
      refine wp_abs (fun W => (Below w.heap.size w W) ∧ (w.heap.size < W.heap.size) ∧ (w2.heap.size < W.heap.size) ∧ (w50.heap.size < W.heap.size) ∧ (w.heap.size < w2.heap.size) ∧ (w2.heap.size < w50.heap.size) ∧ (W.cell? ⟨w.heap.size, 0, none⟩ = some (.int .i64 m.aa)) ∧ (W.cell? ⟨w.heap.size, 1, none⟩ = some (.int .i64 m.bb)) ∧ (W.cell? ⟨w.heap.size, 2, none⟩ = some (.int .i64 m.cc)) ∧ (W.cell? ⟨w.heap.size, 3, none⟩ = some (.int .i64 m.bc)) ∧ (W.cell? ⟨w.heap.size, 4, none⟩ = some (.int .i64 m.ac)) ∧ (W.cell? ⟨w.heap.size, 5, none⟩ = some (.int .i64 m.ab)) ∧ (W.cell? ⟨w2.heap.size, 0, none⟩ = some (.int .i64 mL.aa)) ∧ (W.cell? ⟨w2.heap.size, 1, none⟩ = some (.int .i64 mL.bb)) ∧ (W.cell? ⟨w2.heap.size, 2, none⟩ = some (.int .i64 mL.cc)) ∧ (W.cell? ⟨w2.heap.size, 3, none⟩ = some (.int .i64 mL.bc)) ∧ (W.cell? ⟨w2.heap.size, 4, none⟩ = some (.int .i64 mL.ac)) ∧ (W.cell? ⟨w2.heap.size, 5, none⟩ = some (.int .i64 mL.ab)) ∧ (W.cell? ⟨w50.heap.size, 0, none⟩ = some (.int .i64 pL.p00)) ∧ (W.cell? ⟨w50.heap.size, 1, none⟩ = some (.int .i64 pL.p10)) ∧ (W.cell? ⟨w50.heap.size, 2, none⟩ = some (.int .i64 pL.p20)) ∧ (W.cell? ⟨w50.heap.size, 3, none⟩ = some (.int .i64 pL.p01)) ∧ (W.cell? ⟨w50.heap.size, 4, none⟩ = some (.int .i64 pL.p11)) ∧ (W.cell? ⟨w50.heap.size, 5, none⟩ = some (.int .i64 pL.p21)) ∧ (W.cell? ⟨w50.heap.size, 6, none⟩ = some (.int .i64 pL.p02)) ∧ (W.cell? ⟨w50.heap.size, 7, none⟩ = some (.int .i64 pL.p12)) ∧ (W.cell? ⟨w50.heap.size, 8, none⟩ = some (.int .i64 pL.p22))) ⟨by repeat (first | exact Below.refl _ _ | assumption | exact Below.alloc (Below.refl _ _) (Nat.le_refl _) _ | refine Below.setCell ?_ (by first | (simp; done) | (simp; omega) | omega) _ | refine below_drewN ?_ _ | refine Below.alloc ?_ (by first | (simp; done) | (simp; omega) | omega) _ | refine Below.trans ?_ (Below.mono (by assumption) (by first | (simp; done) | (simp; omega) | omega))), by first | (simp; done) | (simp; omega) | omega, by first | (simp; done) | (simp; omega) | omega, by first | (simp; done) | (simp; omega) | omega, by omega, by omega, by go_simp, by go_simp, by go_simp, by go_simp, by go_simp, by go_simp, by go_simp, by go_simp, by go_simp, by go_simp, by go_simp, by go_simp, by go_simp, by go_simp, by go_simp, by go_simp, by go_simp, by go_simp, by go_simp, by go_simp, by go_simp⟩ ?_
      rintro Wc ⟨BWc, zc0, zc2, zc5, zd0, zd2, ka0, ka1, ka2, ka3, ka4, ka5, kl0, kl1, kl2, kl3, kl4, kl5, kc0, kc1, kc2, kc3, kc4, kc5, kc6, kc7, kc8⟩
      try clear hb50
      try clear hc50
      try clear hf50
      try clear hz50
      try clear hbx0
      try clear hcx0
      try clear hfx0
      try clear hzx0
      try clear hb1
      try clear hc1
      try clear hf1
      try clear hz1
      try clear hb2
      try clear hc2
      try clear hf2
      try clear hz2
      try clear hb3
      try clear hc3
      try clear hf3
      try clear hz3
      try clear hb4
      try clear hc4
      try clear hf4
      try clear hz4
      try clear hbl
      try clear l0 a0 l1 a1 l2 a2 l3 a3 l4 a4 l5 a5
      try clear p0 p1 p2 p3 p4 p5 p6 p7 p8
      go_region_held3 (fun w' => Below Wc.heap.size Wc w' ∧ ∀ b o, b < Wc.heap.size → w'.cell? ⟨b, o, none⟩ = Wc.cell? ⟨b, o, none⟩) (first | assumption | exact ⟨by assumption, by assumption⟩ | exact sb_of (by (repeat (first | assumption | exact And.left (by assumption) | exact Below.refl _ _ | refine Below.setCell ?_ (by first | (simp; done) | omega | (simp; omega)) _ | refine Below.alloc ?_ (by first | (simp; done) | omega | (simp; omega)) _ | refine Below.drew ?_)))) (first | (go_at_call 23; (fail_if_success (have qq := hbq0)); refine (rdot_any _ _ _ _ _ _ _ _ _ _ _ _ _).mono ?_; rintro e q0 ⟨rfl, hbq0⟩; have hsq0 := sb_call (Wc := Wc) (by (repeat (first | assumption | exact And.left (by assumption) | exact Below.refl _ _ | refine Below.setCell ?_ (by first | (simp; done) | omega | (simp; omega)) _ | refine Below.alloc ?_ (by first | (simp; done) | omega | (simp; omega)) _ | refine Below.drew ?_))) hbq0; have hlq0 := hsq0.1.size; have hkq0 := hsq0.2; obtain ⟨hcq0, hfq0⟩ := bcell hbq0; have hzq0 := hbq0.size; (try simp at hzq0); (try have zq0_0 : Wc.heap.size < q0.heap.size := (by omega))) | (go_at_call 23; (fail_if_success (have qq := hbq1)); (have qq := hbq0; clear qq); refine (rdot_any _ _ _ _ _ _ _ _ _ _ _ _ _).mono ?_; rintro e q1 ⟨rfl, hbq1⟩; have hsq1 := sb_call (Wc := Wc) (by (repeat (first | assumption | exact And.left (by assumption) | exact Below.refl _ _ | refine Below.setCell ?_ (by first | (simp; done) | omega | (simp; omega)) _ | refine Below.alloc ?_ (by first | (simp; done) | omega | (simp; omega)) _ | refine Below.drew ?_))) hbq1; have hlq1 := hsq1.1.size; have hkq1 := hsq1.2; obtain ⟨hcq1, hfq1⟩ := bcell hbq1; have hzq1 := hbq1.size; (try simp at hzq1); (try have zq1_0 : Wc.heap.size < q1.heap.size := (by omega)); (try have zq1_1 : q0.heap.size < q1.heap.size := (by omega))) | (go_at_call 23; (fail_if_success (have qq := hbq2)); (have qq := hbq1; clear qq); refine (rdot_any _ _ _ _ _ _ _ _ _ _ _ _ _).mono ?_; rintro e q2 ⟨rfl, hbq2⟩; have hsq2 := sb_call (Wc := Wc) (by (repeat (first | assumption | exact And.left (by assumption) | exact Below.refl _ _ | refine Below.setCell ?_ (by first | (simp; done) | omega | (simp; omega)) _ | refine Below.alloc ?_ (by first | (simp; done) | omega | (simp; omega)) _ | refine Below.drew ?_))) hbq2; have hlq2 := hsq2.1.size; have hkq2 := hsq2.2; obtain ⟨hcq2, hfq2⟩ := bcell hbq2; have hzq2 := hbq2.size; (try simp at hzq2); (try have zq2_0 : Wc.heap.size < q2.heap.size := (by omega)); (try have zq2_1 : q0.heap.size < q2.heap.size := (by omega)); (try have zq2_2 : q1.heap.size < q2.heap.size := (by omega))) | (go_at_call 23; (fail_if_success (have qq := hbq3)); (have qq := hbq2; clear qq); refine (rdot_any _ _ _ _ _ _ _ _ _ _ _ _ _).mono ?_; rintro e q3 ⟨rfl, hbq3⟩; have hsq3 := sb_call (Wc := Wc) (by (repeat (first | assumption | exact And.left (by assumption) | exact Below.refl _ _ | refine Below.setCell ?_ (by first | (simp; done) | omega | (simp; omega)) _ | refine Below.alloc ?_ (by first | (simp; done) | omega | (simp; omega)) _ | refine Below.drew ?_))) hbq3; have hlq3 := hsq3.1.size; have hkq3 := hsq3.2; obtain ⟨hcq3, hfq3⟩ := bcell hbq3; have hzq3 := hbq3.size; (try simp at hzq3); (try have zq3_0 : Wc.heap.size < q3.heap.size := (by omega)); (try have zq3_1 : q0.heap.size < q3.heap.size := (by omega)); (try have zq3_2 : q1.heap.size < q3.heap.size := (by omega)); (try have zq3_3 : q2.heap.size < q3.heap.size := (by omega))) | (go_at_call 23; (fail_if_success (have qq := hbq4)); (have qq := hbq3; clear qq); refine (rdot_any _ _ _ _ _ _ _ _ _ _ _ _ _).mono ?_; rintro e q4 ⟨rfl, hbq4⟩; have hsq4 := sb_call (Wc := Wc) (by (repeat (first | assumption | exact And.left (by assumption) | exact Below.refl _ _ | refine Below.setCell ?_ (by first | (simp; done) | omega | (simp; omega)) _ | refine Below.alloc ?_ (by first | (simp; done) | omega | (simp; omega)) _ | refine Below.drew ?_))) hbq4; have hlq4 := hsq4.1.size; have hkq4 := hsq4.2; obtain ⟨hcq4, hfq4⟩ := bcell hbq4; have hzq4 := hbq4.size; (try simp at hzq4); (try have zq4_0 : Wc.heap.size < q4.heap.size := (by omega)); (try have zq4_1 : q0.heap.size < q4.heap.size := (by omega)); (try have zq4_2 : q1.heap.size < q4.heap.size := (by omega)); (try have zq4_3 : q2.heap.size < q4.heap.size := (by omega)); (try have zq4_4 : q3.heap.size < q4.heap.size := (by omega))) | (go_at_call 23; (fail_if_success (have qq := hbq5)); (have qq := hbq4; clear qq); refine (rdot_any _ _ _ _ _ _ _ _ _ _ _ _ _).mono ?_; rintro e q5 ⟨rfl, hbq5⟩; have hsq5 := sb_call (Wc := Wc) (by (repeat (first | assumption | exact And.left (by assumption) | exact Below.refl _ _ | refine Below.setCell ?_ (by first | (simp; done) | omega | (simp; omega)) _ | refine Below.alloc ?_ (by first | (simp; done) | omega | (simp; omega)) _ | refine Below.drew ?_))) hbq5; have hlq5 := hsq5.1.size; have hkq5 := hsq5.2; obtain ⟨hcq5, hfq5⟩ := bcell hbq5; have hzq5 := hbq5.size; (try simp at hzq5); (try have zq5_0 : Wc.heap.size < q5.heap.size := (by omega)); (try have zq5_1 : q0.heap.size < q5.heap.size := (by omega)); (try have zq5_2 : q1.heap.size < q5.heap.size := (by omega)); (try have zq5_3 : q2.heap.size < q5.heap.size := (by omega)); (try have zq5_4 : q3.heap.size < q5.heap.size := (by omega)); (try have zq5_5 : q4.heap.size < q5.heap.size := (by omega))))
      all_goals simp only [Exit.then, HG0.out, HG1.out, HG2.out, HG3.out, HG4.out, HG5.out]
      all_goals have HQ : Below w.heap.size w q5 := BWc.trans (hsq5.1.mono (by omega))
      all_goals have zq0 : Wc.heap.size ≤ q0.heap.size := hlq0
      all_goals have zq1 : Wc.heap.size ≤ q1.heap.size := hlq1
      all_goals have zq2 : Wc.heap.size ≤ q2.heap.size := hlq2
      all_goals have zq3 : Wc.heap.size ≤ q3.heap.size := hlq3
      all_goals have zq4 : Wc.heap.size ≤ q4.heap.size := hlq4
      all_goals have zq5 : Wc.heap.size ≤ q5.heap.size := hlq5
      all_goals clear hbq0 hsq0 hlq0 hbq1 hsq1 hlq1 hbq2 hsq2 hlq2 hbq3 hsq3 hlq3 hbq4 hsq4 hlq4 hbq5 hsq5 hlq5 hkq0 hkq1 hkq2 hkq3 hkq4 ka0 ka1 ka2 ka3 ka4 ka5 kc0 kc1 kc2 kc3 kc4 kc5 kc6 kc7 kc8
      all_goals have nnWc : ¬ (Wc.heap.size = w2.heap.size) := by omega
      all_goals have nmWc : ¬ (w2.heap.size = Wc.heap.size) := by omega
      all_goals have nnq0 : ¬ (q0.heap.size = w2.heap.size) := by omega
      all_goals have nmq0 : ¬ (w2.heap.size = q0.heap.size) := by omega
      all_goals have nnq1 : ¬ (q1.heap.size = w2.heap.size) := by omega
      all_goals have nmq1 : ¬ (w2.heap.size = q1.heap.size) := by omega
      all_goals have nnq2 : ¬ (q2.heap.size = w2.heap.size) := by omega
      all_goals have nmq2 : ¬ (w2.heap.size = q2.heap.size) := by omega
      all_goals have nnq3 : ¬ (q3.heap.size = w2.heap.size) := by omega
      all_goals have nmq3 : ¬ (w2.heap.size = q3.heap.size) := by omega
      all_goals have nnq4 : ¬ (q4.heap.size = w2.heap.size) := by omega
      all_goals have nmq4 : ¬ (w2.heap.size = q4.heap.size) := by omega
      all_goals have nnq5 : ¬ (q5.heap.size = w2.heap.size) := by omega
      all_goals have nmq5 : ¬ (w2.heap.size = q5.heap.size) := by omega
      all_goals have ya : w2.heap.size < q5.heap.size := by omega
      all_goals have yb : w.heap.size < q5.heap.size := by omega
      all_goals have yc : w2.heap.size < q5.heap.size + 1 := by omega
      all_goals have yd : w.heap.size < q5.heap.size + 1 := by omega
      all_goals rcases Classical.em (chk mL = 0) with hcL | hcL
      all_goals first | ((have EC := Lib.hid hcL; clear hcL); (go_wp2_with fail); (refine (to_v (congrArg (Value.int .i64) EC.out) (check_any _ _ _ _ _ _ _)).mono ?_); (rintro e w51 ⟨rfl, hb51⟩); (obtain ⟨hc51, hf51⟩ := bcell hb51); (have hz51 := hb51.size); (try simp at hz51); (go_wp2_with fail); (refine (HD2.out _ EC.out).mono ?_); (rintro e w52 ⟨rfl, hb52⟩); (obtain ⟨hc52, hf52⟩ := bcell hb52); (have hz52 := hb52.size); (go_wp2); (go_ret); (refine ⟨rfl, ?_⟩); (repeat (first | exact Below.refl _ _ | assumption | exact Below.alloc (Below.refl _ _) (Nat.le_refl _) _ | refine Below.setCell ?_ (by first | (simp; done) | (simp; omega) | omega) _ | refine below_drewN ?_ _ | refine Below.alloc ?_ (by first | (simp; done) | (simp; omega) | omega) _ | refine Below.trans ?_ (Below.mono (by assumption) (by first | (simp; done) | (simp; omega) | omega))))) | ((obtain ⟨Cq, eC⟩ : ∃ x, chk mL = x := ⟨_, rfl⟩); (have hCz : Cq ≠ 0 := by rw [← eC]; exact hcL); (have EC := Lib.hid eC; clear eC hcL); (go_wp2_with fail); (refine (to_v (congrArg (Value.int .i64) EC.out) (check_any _ _ _ _ _ _ _)).mono ?_); (rintro e w51 ⟨rfl, hb51⟩); (obtain ⟨hc51, hf51⟩ := bcell hb51); (have hz51 := hb51.size); (try simp at hz51); (go_wp2); (go_ret); (refine ⟨rfl, ?_⟩); (repeat (first | exact Below.refl _ _ | assumption | exact Below.alloc (Below.refl _ _) (Nat.le_refl _) _ | refine Below.setCell ?_ (by first | (simp; done) | (simp; omega) | omega) _ | refine below_drewN ?_ _ | refine Below.alloc ?_ (by first | (simp; done) | (simp; omega) | omega) _ | refine Below.trans ?_ (Below.mono (by assumption) (by first | (simp; done) | (simp; omega) | omega)))))

end Go.Proofs.Ytdhlkhockpblhaa
