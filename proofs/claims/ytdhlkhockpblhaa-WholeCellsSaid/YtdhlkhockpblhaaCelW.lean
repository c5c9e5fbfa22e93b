/-
  basis: metrics behind a change.
-/
import Derived.Test.YtdhlkhockpblhaaCelV
import Derived.Test.YtdhlkhockpblhaaRedH
namespace Go.Proofs.Ytdhlkhockpblhaa
open Go.RowKit
attribute [local irreducible] World.setCell

set_option linter.unusedSimpArgs false
set_option linter.unusedVariables false

set_option maxHeartbeats 6400000 in
set_option maxRecDepth 100000 in
theorem Metric_ok (p00 p01 p02 p10 p11 p12 p20 p21 p22 o0 o1 o2 aa bb cc bc ac ab q00 q01 q02 q10 q11 q12 q20 q21 q22 x00 x01 x02 x10 x11 x12 x20 x21 x22 y00 y01 y02 y10 y11 y12 y20 y21 y22 : Int) (w : World) (HI : ∀ w : World, Calls Try.prog 52 #[.agg #[.int .i64 p00, .int .i64 p01, .int .i64 p02, .int .i64 p10, .int .i64 p11, .int .i64 p12, .int .i64 p20, .int .i64 p21, .int .i64 p22]] w fun e w' => e = .returned (.tuple #[.agg #[.int .i64 q00, .int .i64 q01, .int .i64 q02, .int .i64 q10, .int .i64 q11, .int .i64 q12, .int .i64 q20, .int .i64 q21, .int .i64 q22], .int .i64 0]) ∧ Below w.heap.size w w') (haa : 1 ≤ aa ∧ aa ≤ 100000) (hbb : 1 ≤ bb ∧ bb ≤ 100000) (hcc : 1 ≤ cc ∧ cc ≤ 100000) (hbc : -100000 ≤ bc ∧ bc ≤ 100000) (hac : -100000 ≤ ac ∧ ac ≤ 100000) (hab : -100000 ≤ ab ∧ ab ≤ 100000) (P1 : ∀ w : World, Calls Try.prog 59 #[.agg #[.int .i64 q00, .int .i64 q10, .int .i64 q20, .int .i64 q01, .int .i64 q11, .int .i64 q21, .int .i64 q02, .int .i64 q12, .int .i64 q22], .agg #[.int .i64 aa, .int .i64 ab, .int .i64 ac, .int .i64 ab, .int .i64 bb, .int .i64 bc, .int .i64 ac, .int .i64 bc, .int .i64 cc]] w fun e w' => e = .returned (.agg #[.int .i64 x00, .int .i64 x01, .int .i64 x02, .int .i64 x10, .int .i64 x11, .int .i64 x12, .int .i64 x20, .int .i64 x21, .int .i64 x22]) ∧ Below w.heap.size w w') (P2 : ∀ w : World, Calls Try.prog 59 #[.agg #[.int .i64 x00, .int .i64 x01, .int .i64 x02, .int .i64 x10, .int .i64 x11, .int .i64 x12, .int .i64 x20, .int .i64 x21, .int .i64 x22], .agg #[.int .i64 q00, .int .i64 q01, .int .i64 q02, .int .i64 q10, .int .i64 q11, .int .i64 q12, .int .i64 q20, .int .i64 q21, .int .i64 q22]] w fun e w' => e = .returned (.agg #[.int .i64 y00, .int .i64 y01, .int .i64 y02, .int .i64 y10, .int .i64 y11, .int .i64 y12, .int .i64 y20, .int .i64 y21, .int .i64 y22]) ∧ Below w.heap.size w w'):
    Calls Try.prog 29 #[.agg #[.int .i64 p00, .int .i64 p01, .int .i64 p02, .int .i64 p10, .int .i64 p11, .int .i64 p12, .int .i64 p20, .int .i64 p21, .int .i64 p22, .int .i64 o0, .int .i64 o1, .int .i64 o2], .agg #[.int .i64 aa, .int .i64 bb, .int .i64 cc, .int .i64 bc, .int .i64 ac, .int .i64 ab]] w fun e w' => e = .returned (.tuple #[.agg #[.int .i64 y00, .int .i64 y11, .int .i64 y22, .int .i64 y12, .int .i64 y02, .int .i64 y01], .int .i64 0]) ∧ Below w.heap.size w w' := by
  have HC := Lib.hid (fun w => bcheck_any p00 p01 p02 p10 p11 p12 p20 p21 p22 o0 o1 o2 q00 q01 q02 q10 q11 q12 q20 q21 q22 w HI)
  have HW := Lib.hid (fun w => within_ok aa bb cc bc ac ab w haa hbb hcc hbc hac hab)
  have A1 := Lib.hid P1; have A2 := Lib.hid P2
  clear HI P1 P2 haa hbb hcc hbc hac hab
  go_enter Try.func29, Try.ntmps29
  go_wp2_with fail
  refine (HW.out _).mono ?_
  rintro e w1 ⟨rfl, hb1⟩
  obtain ⟨hc1, hf1⟩ := bcell hb1
  have hz1 := hb1.size
  try simp at hz1
  have z1_0 : w.heap.size < w1.heap.size := by omega
  have z1_1 : w.heap.size + 1 < w1.heap.size := by omega
  have z1_2 : w.heap.size + 1 + 1 < w1.heap.size := by omega
  go_wp2_with fail
  refine (HC.out _).mono ?_
  rintro e w2 ⟨rfl, hb2⟩
  obtain ⟨hc2, hf2⟩ := bcell hb2
  have hz2 := hb2.size
  try simp at hz2
  have z2_0 : w.heap.size < w2.heap.size := by omega
  have z2_1 : w.heap.size + 1 < w2.heap.size := by omega
  have z2_2 : w.heap.size + 1 + 1 < w2.heap.size := by omega
  go_wp2
  refine wp_loop_rounds 4 ?_
  rw [rounds_succ]
  go_wp2
  refine wp_loop_rounds 4 ?_
  rw [rounds_succ]
  go_wp2
  refine region_headq 9 (by kernel_rfl) (by kernel_rfl) ?_
  simp only [List.take_succ_cons, List.take_zero, List.drop_succ_cons, List.drop_zero]
  repeat (go_big_quiet_step (fail))
  refine wpQuiet_nil ?_
  rintro _ ⟨nq, rfl⟩
  go_wp2
  rw [rounds_succ]
  go_wp2
  refine region_headq 9 (by kernel_rfl) (by kernel_rfl) ?_
  simp only [List.take_succ_cons, List.take_zero, List.drop_succ_cons, List.drop_zero]
  repeat (go_big_quiet_step (fail))
  refine wpQuiet_nil ?_
  rintro _ ⟨nq, rfl⟩
  go_wp2
  rw [rounds_succ]
  go_wp2
  refine region_headq 9 (by kernel_rfl) (by kernel_rfl) ?_
  simp only [List.take_succ_cons, List.take_zero, List.drop_succ_cons, List.drop_zero]
  repeat (go_big_quiet_step (fail))
  refine wpQuiet_nil ?_
  rintro _ ⟨nq, rfl⟩
  go_wp2
  rw [rounds_succ]
  go_wp2
  rw [rounds_succ]
  go_wp2
  refine wp_loop_rounds 4 ?_
  rw [rounds_succ]
  go_wp2
  refine region_headq 9 (by kernel_rfl) (by kernel_rfl) ?_
  simp only [List.take_succ_cons, List.take_zero, List.drop_succ_cons, List.drop_zero]
  repeat (go_big_quiet_step (fail))
  refine wpQuiet_nil ?_
  rintro _ ⟨nq, rfl⟩
  go_wp2
  rw [rounds_succ]
  go_wp2
  refine region_headq 9 (by kernel_rfl) (by kernel_rfl) ?_
  simp only [List.take_succ_cons, List.take_zero, List.drop_succ_cons, List.drop_zero]
  repeat (go_big_quiet_step (fail))
  refine wpQuiet_nil ?_
  rintro _ ⟨nq, rfl⟩
  go_wp2
  rw [rounds_succ]
  go_wp2
  refine region_headq 9 (by kernel_rfl) (by kernel_rfl) ?_
  simp only [List.take_succ_cons, List.take_zero, List.drop_succ_cons, List.drop_zero]
  repeat (go_big_quiet_step (fail))
  refine wpQuiet_nil ?_
  rintro _ ⟨nq, rfl⟩
  go_wp2
  rw [rounds_succ]
  go_wp2
  rw [rounds_succ]
  go_wp2
  refine wp_loop_rounds 4 ?_
  rw [rounds_succ]
  go_wp2
  refine region_headq 9 (by kernel_rfl) (by kernel_rfl) ?_
  simp only [List.take_succ_cons, List.take_zero, List.drop_succ_cons, List.drop_zero]
  repeat (go_big_quiet_step (fail))
  refine wpQuiet_nil ?_
  rintro _ ⟨nq, rfl⟩
  go_wp2
  rw [rounds_succ]
  go_wp2
  refine region_headq 9 (by kernel_rfl) (by kernel_rfl) ?_
  simp only [List.take_succ_cons, List.take_zero, List.drop_succ_cons, List.drop_zero]
  repeat (go_big_quiet_step (fail))
  refine wpQuiet_nil ?_
  rintro _ ⟨nq, rfl⟩
  go_wp2
  rw [rounds_succ]
  go_wp2
  refine region_headq 9 (by kernel_rfl) (by kernel_rfl) ?_
  simp only [List.take_succ_cons, List.take_zero, List.drop_succ_cons, List.drop_zero]
  repeat (go_big_quiet_step (fail))
  refine wpQuiet_nil ?_
  rintro _ ⟨nq, rfl⟩
  go_wp2
  rw [rounds_succ]
  go_wp2
  rw [rounds_succ]
  go_wp2
  skip
  refine wp_abs (fun W => (Below w.heap.size w W) ∧ (W.cell? ⟨w2.heap.size + 1, 0, none⟩ = some (.int .i64 q00)) ∧ (W.cell? ⟨w2.heap.size + 1, 1, none⟩ = some (.int .i64 q10)) ∧ (W.cell? ⟨w2.heap.size + 1, 2, none⟩ = some (.int .i64 q20)) ∧ (W.cell? ⟨w2.heap.size + 1, 3, none⟩ = some (.int .i64 q01)) ∧ (W.cell? ⟨w2.heap.size + 1, 4, none⟩ = some (.int .i64 q11)) ∧ (W.cell? ⟨w2.heap.size + 1, 5, none⟩ = some (.int .i64 q21)) ∧ (W.cell? ⟨w2.heap.size + 1, 6, none⟩ = some (.int .i64 q02)) ∧ (W.cell? ⟨w2.heap.size + 1, 7, none⟩ = some (.int .i64 q12)) ∧ (W.cell? ⟨w2.heap.size + 1, 8, none⟩ = some (.int .i64 q22)) ∧ (W.cell? ⟨w2.heap.size, 0, none⟩ = some (.int .i64 q00)) ∧ (W.cell? ⟨w2.heap.size, 1, none⟩ = some (.int .i64 q01)) ∧ (W.cell? ⟨w2.heap.size, 2, none⟩ = some (.int .i64 q02)) ∧ (W.cell? ⟨w2.heap.size, 3, none⟩ = some (.int .i64 q10)) ∧ (W.cell? ⟨w2.heap.size, 4, none⟩ = some (.int .i64 q11)) ∧ (W.cell? ⟨w2.heap.size, 5, none⟩ = some (.int .i64 q12)) ∧ (W.cell? ⟨w2.heap.size, 6, none⟩ = some (.int .i64 q20)) ∧ (W.cell? ⟨w2.heap.size, 7, none⟩ = some (.int .i64 q21)) ∧ (W.cell? ⟨w2.heap.size, 8, none⟩ = some (.int .i64 q22)) ∧ (W.cell? ⟨w.heap.size + 1, 0, none⟩ = some (.int .i64 aa)) ∧ (W.cell? ⟨w.heap.size + 1, 1, none⟩ = some (.int .i64 bb)) ∧ (W.cell? ⟨w.heap.size + 1, 2, none⟩ = some (.int .i64 cc)) ∧ (W.cell? ⟨w.heap.size + 1, 3, none⟩ = some (.int .i64 bc)) ∧ (W.cell? ⟨w.heap.size + 1, 4, none⟩ = some (.int .i64 ac)) ∧ (W.cell? ⟨w.heap.size + 1, 5, none⟩ = some (.int .i64 ab)) ∧ (W.cell? ⟨w.heap.size + 1 + 1, 0, none⟩ = some (.int .i64 0)) ∧ (W.cell? ⟨w.heap.size + 1 + 1, 1, none⟩ = some (.int .i64 0)) ∧ (W.cell? ⟨w.heap.size + 1 + 1, 2, none⟩ = some (.int .i64 0)) ∧ (W.cell? ⟨w.heap.size + 1 + 1, 3, none⟩ = some (.int .i64 0)) ∧ (W.cell? ⟨w.heap.size + 1 + 1, 4, none⟩ = some (.int .i64 0)) ∧ (W.cell? ⟨w.heap.size + 1 + 1, 5, none⟩ = some (.int .i64 0)) ∧ (W.frozen? ⟨w.heap.size + 1 + 1, 0, none⟩ = false) ∧ (W.frozen? ⟨w.heap.size + 1 + 1, 1, none⟩ = false) ∧ (W.frozen? ⟨w.heap.size + 1 + 1, 2, none⟩ = false) ∧ (W.frozen? ⟨w.heap.size + 1 + 1, 3, none⟩ = false) ∧ (W.frozen? ⟨w.heap.size + 1 + 1, 4, none⟩ = false) ∧ (W.frozen? ⟨w.heap.size + 1 + 1, 5, none⟩ = false) ∧ (w2.heap.size + 1 < W.heap.size) ∧ (w.heap.size + 1 + 1 < W.heap.size)) ⟨by
        repeat (first | exact Below.refl _ _ | assumption | exact Below.alloc (Below.refl _ _) (Nat.le_refl _) _ | refine Below.setCell ?_ (by first | (simp; done) | (simp; omega) | omega) _ | refine below_drewN ?_ _ | refine Below.alloc ?_ (by first | (simp; done) | (simp; omega) | omega) _ | refine Below.trans ?_ (Below.mono (by assumption) (by first | (simp; done) | (simp; omega) | omega))), by go_simp, by go_simp, by go_simp, by go_simp, by go_simp, by go_simp, by go_simp, by go_simp, by go_simp, by go_simp, by go_simp, by go_simp, by go_simp, by go_simp, by go_simp, by go_simp, by go_simp, by go_simp, by go_simp, by go_simp, by go_simp, by go_simp, by go_simp, by go_simp, by go_simp, by go_simp, by go_simp, by go_simp, by go_simp, by go_simp, by go_simp, by go_simp, by go_simp, by go_simp, by go_simp, by go_simp, by simp, by (simp; omega)⟩ ?_
  rintro W5 ⟨HBL, ft0, ft1, ft2, ft3, ft4, ft5, ft6, ft7, ft8, fq0, fq1, fq2, fq3, fq4, fq5, fq6, fq7, fq8, fm0, fm1, fm2, fm3, fm4, fm5, fr0, fr1, fr2, fr3, fr4, fr5, fz0, fz1, fz2, fz3, fz4, fz5, zW, zR⟩
  clear hc1 hf1 hc2 hf2
  have BL := Lib.hid HBL
  clear HBL
  have zM : w.heap.size + 1 < W5.heap.size := by omega
  have zQ : w2.heap.size < W5.heap.size := by omega
  go_cut [11] from 42 to 67 (fun s wx => ∃ gb : Nat, s = .pointer (some ⟨gb, 0, none⟩) ∧ Below w.heap.size w wx ∧ gb < wx.heap.size ∧ w.heap.size + 1 + 1 < wx.heap.size ∧ w.heap.size + 1 + 1 ≠ gb ∧ wx.cell? ⟨gb, 0, none⟩ = some (.int .i64 y00) ∧ wx.cell? ⟨gb, 1, none⟩ = some (.int .i64 y01) ∧ wx.cell? ⟨gb, 2, none⟩ = some (.int .i64 y02) ∧ wx.cell? ⟨gb, 3, none⟩ = some (.int .i64 y10) ∧ wx.cell? ⟨gb, 4, none⟩ = some (.int .i64 y11) ∧ wx.cell? ⟨gb, 5, none⟩ = some (.int .i64 y12) ∧ wx.cell? ⟨gb, 6, none⟩ = some (.int .i64 y20) ∧ wx.cell? ⟨gb, 7, none⟩ = some (.int .i64 y21) ∧ wx.cell? ⟨gb, 8, none⟩ = some (.int .i64 y22) ∧ wx.cell? ⟨w.heap.size + 1 + 1, 0, none⟩ = some (.int .i64 0) ∧ wx.cell? ⟨w.heap.size + 1 + 1, 1, none⟩ = some (.int .i64 0) ∧ wx.cell? ⟨w.heap.size + 1 + 1, 2, none⟩ = some (.int .i64 0) ∧ wx.cell? ⟨w.heap.size + 1 + 1, 3, none⟩ = some (.int .i64 0) ∧ wx.cell? ⟨w.heap.size + 1 + 1, 4, none⟩ = some (.int .i64 0) ∧ wx.cell? ⟨w.heap.size + 1 + 1, 5, none⟩ = some (.int .i64 0) ∧ wx.frozen? ⟨w.heap.size + 1 + 1, 0, none⟩ = false ∧ wx.frozen? ⟨w.heap.size + 1 + 1, 1, none⟩ = false ∧ wx.frozen? ⟨w.heap.size + 1 + 1, 2, none⟩ = false ∧ wx.frozen? ⟨w.heap.size + 1 + 1, 3, none⟩ = false ∧ wx.frozen? ⟨w.heap.size + 1 + 1, 4, none⟩ = false ∧ wx.frozen? ⟨w.heap.size + 1 + 1, 5, none⟩ = false)
  case first =>
    go_region_held3 (fun w' => Below W5.heap.size W5 w' ∧ ∀ b o, b < W5.heap.size → w'.cell? ⟨b, o, none⟩ = W5.cell? ⟨b, o, none⟩) ((first | assumption | exact ⟨by assumption, by assumption⟩ | exact sb_of (by (repeat (first | assumption | exact And.left (by assumption) | exact Below.refl _ _ | refine below_drewN ?_ _ | refine Below.setCell ?_ (by first | (simp; done) | omega | (simp; omega)) _ | refine Below.alloc ?_ (by first | (simp; done) | omega | (simp; omega)) _ | refine Below.drew ?_))))) (first | (go_at_call 59; with_reducible refine (A1.out _).mono ?_; rintro e qa ⟨rfl, hqa⟩; have hsa := sb_call (Wc := W5) (by (repeat (first | assumption | exact And.left (by assumption) | exact Below.refl _ _ | refine below_drewN ?_ _ | refine Below.setCell ?_ (by first | (simp; done) | omega | (simp; omega)) _ | refine Below.alloc ?_ (by first | (simp; done) | omega | (simp; omega)) _ | refine Below.drew ?_))) hqa; have hla := hsa.1.size; have hka := hsa.2; obtain ⟨hca, hfa⟩ := bcell hqa; have hya := hqa.size; (try simp at hya); (try have za0 : W5.heap.size < qa.heap.size := (by omega))) | (go_at_call 59; with_reducible refine (A2.out _).mono ?_; rintro e qb ⟨rfl, hqb⟩; have hsb := sb_call (Wc := W5) (by (repeat (first | assumption | exact And.left (by assumption) | exact Below.refl _ _ | refine below_drewN ?_ _ | refine Below.setCell ?_ (by first | (simp; done) | omega | (simp; omega)) _ | refine Below.alloc ?_ (by first | (simp; done) | omega | (simp; omega)) _ | refine Below.drew ?_))) hqb; have hlb := hsb.1.size; have hkb := hsb.2; obtain ⟨hcb, hfb⟩ := bcell hqb; have hyb := hqb.size; (try simp at hyb); (try have zb0 : W5.heap.size < qb.heap.size := (by omega)); (try have zb1 : qa.heap.size < qb.heap.size := (by omega))))
    all_goals
      have er0 : qb.cell? ⟨w.heap.size + 1 + 1, 0, none⟩ = some (.int .i64 0) := (hsb.2 _ _ zR).trans fr0
      have er1 : qb.cell? ⟨w.heap.size + 1 + 1, 1, none⟩ = some (.int .i64 0) := (hsb.2 _ _ zR).trans fr1
      have er2 : qb.cell? ⟨w.heap.size + 1 + 1, 2, none⟩ = some (.int .i64 0) := (hsb.2 _ _ zR).trans fr2
      have er3 : qb.cell? ⟨w.heap.size + 1 + 1, 3, none⟩ = some (.int .i64 0) := (hsb.2 _ _ zR).trans fr3
      have er4 : qb.cell? ⟨w.heap.size + 1 + 1, 4, none⟩ = some (.int .i64 0) := (hsb.2 _ _ zR).trans fr4
      have er5 : qb.cell? ⟨w.heap.size + 1 + 1, 5, none⟩ = some (.int .i64 0) := (hsb.2 _ _ zR).trans fr5
      have ez0 : qb.frozen? ⟨w.heap.size + 1 + 1, 0, none⟩ = false := (hsb.1.frozen (p := ⟨w.heap.size + 1 + 1, 0, none⟩) zR).trans fz0
      have ez1 : qb.frozen? ⟨w.heap.size + 1 + 1, 1, none⟩ = false := (hsb.1.frozen (p := ⟨w.heap.size + 1 + 1, 1, none⟩) zR).trans fz1
      have ez2 : qb.frozen? ⟨w.heap.size + 1 + 1, 2, none⟩ = false := (hsb.1.frozen (p := ⟨w.heap.size + 1 + 1, 2, none⟩) zR).trans fz2
      have ez3 : qb.frozen? ⟨w.heap.size + 1 + 1, 3, none⟩ = false := (hsb.1.frozen (p := ⟨w.heap.size + 1 + 1, 3, none⟩) zR).trans fz3
      have ez4 : qb.frozen? ⟨w.heap.size + 1 + 1, 4, none⟩ = false := (hsb.1.frozen (p := ⟨w.heap.size + 1 + 1, 4, none⟩) zR).trans fz4
      have ez5 : qb.frozen? ⟨w.heap.size + 1 + 1, 5, none⟩ = false := (hsb.1.frozen (p := ⟨w.heap.size + 1 + 1, 5, none⟩) zR).trans fz5
      clear ft0 fq0 ft1 fq1 ft2 fq2 ft3 fq3 ft4 fq4 ft5 fq5 ft6 fq6 ft7 fq7 ft8 fq8 fm0 fr0 fz0 fm1 fr1 fz1 fm2 fr2 fz2 fm3 fr3 fz3 fm4 fr4 fz4 fm5 fr5 fz5
      have zRb : w.heap.size + 1 + 1 < qb.heap.size := by omega
      have zRn : w.heap.size + 1 + 1 ≠ qb.heap.size := by omega
      have zRm : w.heap.size + 1 + 1 ≠ qa.heap.size := by omega
      have zRk : w.heap.size + 1 + 1 ≠ W5.heap.size := by omega
      go_wp2
      go_meet
      refine ⟨_, rfl, BL.out.trans (Below.mono (show Below W5.heap.size W5 _ by (repeat (first | assumption | exact And.left (by assumption) | exact Below.refl _ _ | refine below_drewN ?_ _ | refine Below.setCell ?_ (by first | (simp; done) | omega | (simp; omega)) _ | refine Below.alloc ?_ (by first | (simp; done) | omega | (simp; omega)) _ | refine Below.drew ?_))) BL.out.size), ?_⟩
      (repeat' apply And.intro) <;> first | (go_simp; done) | (simp; omega) | omega | (refine keep_alloc ?_; (repeat' (first | assumption | refine keep_set ?_ ?_ | refine keep_alloc ?_ | (dsimp only; omega) | omega)); done) | ((repeat' (first | assumption | refine keep_set ?_ ?_ | refine keep_alloc ?_ | (dsimp only; omega) | omega)); done)
  case rest =>
    obtain ⟨gb, rfl, HB2, hgb, hrw, hne, gy0, gy1, gy2, gy3, gy4, gy5, gy6, gy7, gy8, gr0, gr1, gr2, gr3, gr4, gr5, gz0, gz1, gz2, gz3, gz4, gz5⟩ := hcut
    go_wp2
    refine bodyPost_ret (v := .tuple #[.agg #[.int .i64 y00, .int .i64 y11, .int .i64 y22, .int .i64 y12, .int .i64 y02, .int .i64 y01], .int .i64 0]) (by simp [results, Try.results29, go_sem, wrap_add_l, wrap_add_r, wrap_sub_l, wrap_sub_r, wrap_mul_l, wrap_mul_r, wrap_neg, wrap_wrap, *]) rfl ⟨rfl, ?_⟩
    repeat (first | exact Below.refl _ _ | assumption | exact Below.alloc (Below.refl _ _) (Nat.le_refl _) _ | refine Below.setCell ?_ (by first | (simp; done) | (simp; omega) | omega) _ | refine below_drewN ?_ _ | refine Below.alloc ?_ (by first | (simp; done) | (simp; omega) | omega) _ | refine Below.trans ?_ (Below.mono (by assumption) (by first | (simp; done) | (simp; omega) | omega)))

end Go.Proofs.Ytdhlkhockpblhaa
