/-
  The law ReduceVectors, walked: it returns true.
-/
import Derived.Test.YtdhlkhockpblhaaRedVb
import Derived.Test.YtdhlkhockpblhaaRedAw
import Derived.Test.YtdhlkhockpblhaaRedU
import Derived.Test.YtdhlkhockpblhaaRedX
namespace Go.Proofs.Ytdhlkhockpblhaa
open Go.RowKit
attribute [local irreducible] World.setCell

set_option linter.unusedSimpArgs false
set_option linter.unusedVariables false

@[go_sem] theorem eqCol (d : Nat) (a0 a1 a2 b0 b1 b2 : Int) (w : World) :
    (Op.equalIn (d + 2) 48 (.agg #[.int .i64 a0, .int .i64 a1, .int .i64 a2]) (.agg #[.int .i64 b0, .int .i64 b1, .int .i64 b2])).run Try.prog w = .ok (a0 == b0 && (a1 == b1 && a2 == b2)) w := by
  obtain ⟨i, hi⟩ := some_of_isSome (o := Try.prog.info? 3) (by kernel_rfl)
  have und : Try.prog.underlying 48 = some (.array 3 3) := by kernel_rfl
  have c3 : Try.prog.cellsOf 3 = 1 := by kernel_rfl
  rw [run_equalIn_array w (d + 1) _ _ und hi, c3]
  have p0 : ∀ (x y z : Value) (w : World), (part 3 #[x, y, z] 0).run Try.prog w = .ok x w := fun _ _ _ _ => by kernel_rfl
  have p1 : ∀ (x y z : Value) (w : World), (part 3 #[x, y, z] 1).run Try.prog w = .ok y w := fun _ _ _ _ => by kernel_rfl
  have p2 : ∀ (x y z : Value) (w : World), (part 3 #[x, y, z] 2).run Try.prog w = .ok z w := fun _ _ _ _ => by kernel_rfl
  simp [List.range_succ, Op.eqItems, p0, p1, p2, run_equalIn_int (h := Try.underlying3)]
  by_cases h0 : a0 = b0 <;> by_cases h1 : a1 = b1 <;> by_cases h2 : a2 = b2 <;> simp [h0, h1, h2]

theorem dr_0 (m : Met) : Value.int .i64 (wrap64 (m.aa * 0 * 0 + m.bb * 1 * 1 + m.cc * 0 * 0 + m.bc * (1 * 0 + 0 * 1) + m.ac * (0 * 0 + 0 * 0) + m.ab * (0 * 1 + 1 * 0))) = .int .i64 (sev m 1) := congrArg (fun x => Value.int .i64 (wrap64 x)) (by omega)
theorem dr_1 (m : Met) : Value.int .i64 (wrap64 (m.aa * 0 * 0 + m.bb * 0 * 0 + m.cc * 1 * 1 + m.bc * (0 * 1 + 1 * 0) + m.ac * (0 * 1 + 1 * 0) + m.ab * (0 * 0 + 0 * 0))) = .int .i64 (sev m 2) := congrArg (fun x => Value.int .i64 (wrap64 x)) (by omega)
theorem dr_2 (m : Met) : Value.int .i64 (wrap64 (m.aa * 1 * 1 + m.bb * 1 * 1 + m.cc * 1 * 1 + m.bc * (1 * 1 + 1 * 1) + m.ac * (1 * 1 + 1 * 1) + m.ab * (1 * 1 + 1 * 1))) = .int .i64 (sev m 3) := congrArg (fun x => Value.int .i64 (wrap64 x)) (by omega)
theorem dr_3 (m : Met) : Value.int .i64 (wrap64 (m.aa * 1 * 1 + m.bb * 1 * 1 + m.cc * 0 * 0 + m.bc * (1 * 0 + 0 * 1) + m.ac * (1 * 0 + 0 * 1) + m.ab * (1 * 1 + 1 * 1))) = .int .i64 (sev m 4) := congrArg (fun x => Value.int .i64 (wrap64 x)) (by omega)
theorem dr_4 (m : Met) : Value.int .i64 (wrap64 (m.aa * 1 * 1 + m.bb * 0 * 0 + m.cc * 1 * 1 + m.bc * (0 * 1 + 1 * 0) + m.ac * (1 * 1 + 1 * 1) + m.ab * (1 * 0 + 0 * 1))) = .int .i64 (sev m 5) := congrArg (fun x => Value.int .i64 (wrap64 x)) (by omega)
theorem dr_5 (m : Met) : Value.int .i64 (wrap64 (m.aa * 0 * 0 + m.bb * 1 * 1 + m.cc * 1 * 1 + m.bc * (1 * 1 + 1 * 1) + m.ac * (0 * 1 + 1 * 0) + m.ab * (0 * 1 + 1 * 0))) = .int .i64 (sev m 6) := congrArg (fun x => Value.int .i64 (wrap64 x)) (by omega)
set_option maxHeartbeats 1600000 in
theorem vectors_bad (m : Met) (p00 p01 p02 p10 p11 p12 p20 p21 p22 : Int) (u0 u1 u2 C : Int) (w : World) (h : chk m = C) (hC : C ≠ 0):
    Calls Try.prog 8 #[.agg #[.int .i64 m.aa, .int .i64 m.bb, .int .i64 m.cc, .int .i64 m.bc, .int .i64 m.ac, .int .i64 m.ab], .agg #[.int .i64 p00, .int .i64 p01, .int .i64 p02, .int .i64 p10, .int .i64 p11, .int .i64 p12, .int .i64 p20, .int .i64 p21, .int .i64 p22], .agg #[.int .i8 u0, .int .i8 u1, .int .i8 u2]] w fun e w' => e = .returned (.bool true) ∧ Below w.heap.size w w' := by
  have A1 := fun w => Shortest_bad m C w h hC
  have B1 := Lib.hid A1; have E := Lib.hid h; clear A1 h
  go_enter Try.func8, Try.ntmps8
  go_wp2_with fail
  refine (awake_any _).mono ?_
  rintro e w1 ⟨rfl, hb1⟩
  obtain ⟨hc1, hf1⟩ := bcell hb1
  have hz1 := hb1.size
  try simp at hz1
  have z1_0 : w.heap.size < w1.heap.size := by omega
  have z1_1 : w.heap.size + 1 < w1.heap.size := by omega
  have z1_2 : w.heap.size + 1 + 1 < w1.heap.size := by omega
  go_wp2_with fail
  refine (B1.out _).mono ?_
  rintro e w2 ⟨rfl, hb2⟩
  obtain ⟨hc2, hf2⟩ := bcell hb2
  have hz2 := hb2.size
  try simp at hz2
  have z2_0 : w.heap.size < w2.heap.size := by omega
  have z2_1 : w.heap.size + 1 < w2.heap.size := by omega
  have z2_2 : w.heap.size + 1 + 1 < w2.heap.size := by omega
  go_wp2_with fail
  refine (to_v (congrArg (Value.int .i64) E.out) (check_any _ _ _ _ _ _ _)).mono ?_
  rintro e w3 ⟨rfl, hb3⟩
  obtain ⟨hc3, hf3⟩ := bcell hb3
  have hz3 := hb3.size
  try simp at hz3
  have z3_0 : w.heap.size < w3.heap.size := by omega
  have z3_1 : w.heap.size + 1 < w3.heap.size := by omega
  have z3_2 : w.heap.size + 1 + 1 < w3.heap.size := by omega
  go_wp2
  go_ret
  refine ⟨rfl, ?_⟩
  repeat (first | exact Below.refl _ _ | assumption | exact Below.alloc (Below.refl _ _) (Nat.le_refl _) _ | refine Below.setCell ?_ (by first | (simp; done) | (simp; omega) | omega) _ | refine below_drewN ?_ _ | refine Below.alloc ?_ (by first | (simp; done) | (simp; omega) | omega) _ | refine Below.trans ?_ (Below.mono (by assumption) (by first | (simp; done) | (simp; omega) | omega)))

theorem dot_q {m : Met} (hm : Chk m) {x y z : Int} (hx : -128 ≤ x ∧ x ≤ 127) (hy : -128 ≤ y ∧ y ≤ 127) (hz : -128 ≤ z ∧ z ≤ 127) : wrap64 (m.aa * x * x + m.bb * y * y + m.cc * z * z + m.bc * (y * z + z * y) + m.ac * (x * z + z * x) + m.ab * (x * y + y * x)) = Qf m x y z := by
  obtain ⟨aa, bb, cc, bc, ac, ab⟩ := m
  obtain ⟨h1, h2, h3, h4, h5, h6, h7, h8, h9, h10, h11, h12, _, _, _⟩ := hm
  dsimp only at *
  have a1 := mul3_b aa x x (by omega) (by omega) (by omega) (by omega) (by omega) (by omega)
  have a2 := mul3_b bb y y (by omega) (by omega) (by omega) (by omega) (by omega) (by omega)
  have a3 := mul3_b cc z z (by omega) (by omega) (by omega) (by omega) (by omega) (by omega)
  have a4 := mul3_b bc y z (by omega) (by omega) (by omega) (by omega) (by omega) (by omega)
  have a5 := mul3_b ac x z (by omega) (by omega) (by omega) (by omega) (by omega) (by omega)
  have a6 := mul3_b ab x y (by omega) (by omega) (by omega) (by omega) (by omega) (by omega)
  have e : (aa * x * x + bb * y * y + cc * z * z + bc * (y * z + z * y) + ac * (x * z + z * x) + ab * (x * y + y * x)) = Qf ⟨aa, bb, cc, bc, ac, ab⟩ x y z := by simp only [Qf]; grind
  rw [e]
  simp only [Qf]
  have e4 : bc * (y * z) = bc * y * z := by grind
  exact wrapE (by omega) (by omega)
set_option maxHeartbeats 6400000 in
set_option maxRecDepth 100000 in
theorem vectors_ok (m : Met) (p00 p01 p02 p10 p11 p12 p20 p21 p22 : Int) (u0 u1 u2 : Int) (w : World) (h : chk m = 0) (hu0 : -128 ≤ u0 ∧ u0 ≤ 127) (hu1 : -128 ≤ u1 ∧ u1 ≤ 127) (hu2 : -128 ≤ u2 ∧ u2 ≤ 127):
    Calls Try.prog 8 #[.agg #[.int .i64 m.aa, .int .i64 m.bb, .int .i64 m.cc, .int .i64 m.bc, .int .i64 m.ac, .int .i64 m.ab], .agg #[.int .i64 p00, .int .i64 p01, .int .i64 p02, .int .i64 p10, .int .i64 p11, .int .i64 p12, .int .i64 p20, .int .i64 p21, .int .i64 p22], .agg #[.int .i8 u0, .int .i8 u1, .int .i8 u2]] w fun e w' => e = .returned (.bool true) ∧ Below w.heap.size w w' := by
  obtain ⟨N, hN0, hN, hl⟩ := chk_end h
  obtain ⟨cm, cm1⟩ := chk_min h hN hl
  have A1 := fun w => Shortest_run m N (by omega) hN hl w h
  have A2 := fun w => Obtuse_ok m N (by omega) hN hl w h
  have hvec : formC p00 p01 p02 p10 p11 p12 p20 p21 p22 = 0 → chk (tmet m p00 p01 p02 p10 p11 p12 p20 p21 p22) = 0 → ∀ w, Calls Try.prog 15 #[.agg #[.int .i64 (tmet m p00 p01 p02 p10 p11 p12 p20 p21 p22).aa, .int .i64 (tmet m p00 p01 p02 p10 p11 p12 p20 p21 p22).bb, .int .i64 (tmet m p00 p01 p02 p10 p11 p12 p20 p21 p22).cc, .int .i64 (tmet m p00 p01 p02 p10 p11 p12 p20 p21 p22).bc, .int .i64 (tmet m p00 p01 p02 p10 p11 p12 p20 p21 p22).ac, .int .i64 (tmet m p00 p01 p02 p10 p11 p12 p20 p21 p22).ab]] w fun e w' => e = .returned (.tuple #[.int .i64 (lst (it m N) 6), .int .i64 0]) ∧ Below w.heap.size w w' := fun hF hb w => by
    obtain ⟨N2, a0, a1, a2⟩ := chk_end hb
    exact to_v (by rw [same_least h hF hb hN hl a1 a2]) (Shortest_run (tmet m p00 p01 p02 p10 p11 p12 p20 p21 p22) N2 (by omega) a1 a2 w hb)
  have ck := chk_ok h
  have hq : ∀ x y z, nz x y z → (-128 ≤ x ∧ x ≤ 127) → (-128 ≤ y ∧ y ≤ 127) → (-128 ≤ z ∧ z ≤ 127) → lst (it m N) 6 ≤ Qf m x y z := fun x y z hz _ _ _ => cm.le x y z hz
  obtain ⟨qv, eqv⟩ : ∃ x, x = Qf m u0 u1 u2 := ⟨_, rfl⟩
  have hdot : ∀ w, Calls Try.prog 23 #[.agg #[.int .i64 m.aa, .int .i64 m.bb, .int .i64 m.cc, .int .i64 m.bc, .int .i64 m.ac, .int .i64 m.ab], .agg #[.int .i64 u0, .int .i64 u1, .int .i64 u2], .agg #[.int .i64 u0, .int .i64 u1, .int .i64 u2]] w fun e w' => e = .returned (.int .i64 qv) ∧ Below w.heap.size w w' := fun w => to_v (by rw [eqv]; exact congrArg (Value.int .i64) (dot_q ck hu0 hu1 hu2)) (rdot_any _ _ _ _ _ _ _ _ _ _ _ _ w)
  have hqv : nz u0 u1 u2 → lst (it m N) 6 ≤ qv := fun hz => by rw [eqv]; exact cm.le _ _ _ hz
  obtain ⟨mL, eL⟩ : ∃ x, x = it m N := ⟨_, rfl⟩
  obtain ⟨pL, epL⟩ : ∃ x, x = al m N := ⟨_, rfl⟩
  rw [← eL] at A1 A2 hvec hqv cm1
  rw [← epL] at A2
  clear hq cm eL epL eqv ck hN hl
  have hl6 : min (min (min (min (min (min mL.aa (sev mL 1)) (sev mL 2)) (sev mL 3)) (sev mL 4)) (sev mL 5)) (sev mL 6) = lst mL 6 := rfl
  obtain ⟨n, en⟩ : ∃ x, x = lst mL 6 := ⟨_, rfl⟩
  rw [← en] at A1 hvec hqv cm1 hl6
  clear en
  obtain ⟨bm, ebm⟩ : ∃ x, x = tmet m p00 p01 p02 p10 p11 p12 p20 p21 p22 := ⟨_, rfl⟩
  have hT : formC p00 p01 p02 p10 p11 p12 p20 p21 p22 = 0 → ∀ w, Calls Try.prog 24 #[.agg #[.int .i64 m.aa, .int .i64 m.bb, .int .i64 m.cc, .int .i64 m.bc, .int .i64 m.ac, .int .i64 m.ab], .agg #[.int .i64 p00, .int .i64 p01, .int .i64 p02, .int .i64 p10, .int .i64 p11, .int .i64 p12, .int .i64 p20, .int .i64 p21, .int .i64 p22]] w fun e w' => e = .returned (.tuple #[.agg #[.int .i64 bm.aa, .int .i64 bm.bb, .int .i64 bm.cc, .int .i64 bm.bc, .int .i64 bm.ac, .int .i64 bm.ab], .int .i64 0]) ∧ Below w.heap.size w w' := fun hF w => to_v (by rw [ebm]; rfl) (Turned_ok m p00 p01 p02 p10 p11 p12 p20 p21 p22 w h hF)
  rw [← ebm] at hvec
  clear ebm
  have B1 := Lib.hid A1; have B2 := Lib.hid A2; have HV := Lib.hid hvec; have HD := Lib.hid hdot; have HT := Lib.hid hT; have HL := Lib.hid hl6; clear A1 A2 hvec hdot hT hl6
  have hn1 : decide (n < 1) = false := decide_eq_false (by omega)
  go_enter Try.func8, Try.ntmps8
  go_wp2_with fail
  refine (awake_any _).mono ?_
  rintro e w1 ⟨rfl, hb1⟩
  obtain ⟨hc1, hf1⟩ := bcell hb1
  have hz1 := hb1.size
  try simp at hz1
  have z1_0 : w.heap.size < w1.heap.size := by omega
  have z1_1 : w.heap.size + 1 < w1.heap.size := by omega
  have z1_2 : w.heap.size + 1 + 1 < w1.heap.size := by omega
  go_wp2_with fail
  refine (B1.out _).mono ?_
  rintro e w2 ⟨rfl, hb2⟩
  obtain ⟨hc2, hf2⟩ := bcell hb2
  have hz2 := hb2.size
  try simp at hz2
  have z2_0 : w.heap.size < w2.heap.size := by omega
  have z2_1 : w.heap.size + 1 < w2.heap.size := by omega
  have z2_2 : w.heap.size + 1 + 1 < w2.heap.size := by omega
  have yb0 : w.heap.size < w2.heap.size + 1 := by omega
  have yb1 : w.heap.size + 1 < w2.heap.size + 1 := by omega
  have yb2 : w.heap.size + 1 + 1 < w2.heap.size + 1 := by omega
  cases hz : (u0 == 0 && (u1 == 0 && u2 == 0))
  · have hqn : decide (qv < n) = false := decide_eq_false (by have := hqv (by unfold nz; intro q; simp [q.1, q.2.1, q.2.2] at hz); omega)
    have yv : w2.heap.size < w2.heap.size + 1 := by omega
    go_wp2_with fail
    refine (HD.out _).mono ?_
    rintro e w3 ⟨rfl, hb3⟩
    obtain ⟨hc3, hf3⟩ := bcell hb3
    have hz3 := hb3.size
    try simp at hz3
    have z3_0 : w.heap.size < w3.heap.size := by omega
    have z3_1 : w.heap.size + 1 < w3.heap.size := by omega
    have z3_2 : w.heap.size + 1 + 1 < w3.heap.size := by omega
    have z3_3 : w2.heap.size < w3.heap.size := by omega
    go_wp2_with fail
    refine (B2.out _).mono ?_
    rintro e w4 ⟨rfl, hb4⟩
    obtain ⟨hc4, hf4⟩ := bcell hb4
    have hz4 := hb4.size
    try simp at hz4
    have z4_0 : w.heap.size < w4.heap.size := by omega
    have z4_1 : w.heap.size + 1 < w4.heap.size := by omega
    have z4_2 : w.heap.size + 1 + 1 < w4.heap.size := by omega
    have z4_3 : w2.heap.size < w4.heap.size := by omega
    have fm0 : w4.cell? ⟨w.heap.size, 0, none⟩ = some (.int .i64 m.aa) := by go_simp
    have fm1 : w4.cell? ⟨w.heap.size, 1, none⟩ = some (.int .i64 m.bb) := by go_simp
    have fm2 : w4.cell? ⟨w.heap.size, 2, none⟩ = some (.int .i64 m.cc) := by go_simp
    have fm3 : w4.cell? ⟨w.heap.size, 3, none⟩ = some (.int .i64 m.bc) := by go_simp
    have fm4 : w4.cell? ⟨w.heap.size, 4, none⟩ = some (.int .i64 m.ac) := by go_simp
    have fm5 : w4.cell? ⟨w.heap.size, 5, none⟩ = some (.int .i64 m.ab) := by go_simp
    have fp0 : w4.cell? ⟨w.heap.size + 1, 0, none⟩ = some (.int .i64 p00) := by go_simp
    have fp1 : w4.cell? ⟨w.heap.size + 1, 1, none⟩ = some (.int .i64 p01) := by go_simp
    have fp2 : w4.cell? ⟨w.heap.size + 1, 2, none⟩ = some (.int .i64 p02) := by go_simp
    have fp3 : w4.cell? ⟨w.heap.size + 1, 3, none⟩ = some (.int .i64 p10) := by go_simp
    have fp4 : w4.cell? ⟨w.heap.size + 1, 4, none⟩ = some (.int .i64 p11) := by go_simp
    have fp5 : w4.cell? ⟨w.heap.size + 1, 5, none⟩ = some (.int .i64 p12) := by go_simp
    have fp6 : w4.cell? ⟨w.heap.size + 1, 6, none⟩ = some (.int .i64 p20) := by go_simp
    have fp7 : w4.cell? ⟨w.heap.size + 1, 7, none⟩ = some (.int .i64 p21) := by go_simp
    have fp8 : w4.cell? ⟨w.heap.size + 1, 8, none⟩ = some (.int .i64 p22) := by go_simp
    go_wp2
    refine wp_loop_rounds 7 ?_
    rw [rounds_succ]
    go_wp2_with fail
    refine (to_v (dr_0 mL) (rdot_any _ _ _ _ _ _ _ _ _ _ _ _ _)).mono ?_
    rintro e w5 ⟨rfl, hb5⟩
    obtain ⟨hc5, hf5⟩ := bcell hb5
    have hz5 := hb5.size
    try simp at hz5
    have z5_0 : w.heap.size < w5.heap.size := by omega
    have z5_1 : w.heap.size + 1 < w5.heap.size := by omega
    have z5_2 : w.heap.size + 1 + 1 < w5.heap.size := by omega
    have z5_3 : w2.heap.size < w5.heap.size := by omega
    have z5_4 : w4.heap.size < w5.heap.size := by omega
    have z5_5 : w4.heap.size + 1 < w5.heap.size := by omega
    have z5_6 : w4.heap.size + 1 + 1 < w5.heap.size := by omega
    have z5_7 : w4.heap.size + 1 + 1 + 1 < w5.heap.size := by omega
    go_wp2
    rw [rounds_succ]
    go_wp2_with fail
    refine (to_v (dr_1 mL) (rdot_any _ _ _ _ _ _ _ _ _ _ _ _ _)).mono ?_
    rintro e w6 ⟨rfl, hb6⟩
    obtain ⟨hc6, hf6⟩ := bcell hb6
    have hz6 := hb6.size
    try simp at hz6
    have z6_0 : w.heap.size < w6.heap.size := by omega
    have z6_1 : w.heap.size + 1 < w6.heap.size := by omega
    have z6_2 : w.heap.size + 1 + 1 < w6.heap.size := by omega
    have z6_3 : w2.heap.size < w6.heap.size := by omega
    have z6_4 : w4.heap.size < w6.heap.size := by omega
    have z6_5 : w4.heap.size + 1 < w6.heap.size := by omega
    have z6_6 : w4.heap.size + 1 + 1 < w6.heap.size := by omega
    have z6_7 : w4.heap.size + 1 + 1 + 1 < w6.heap.size := by omega
    have z6_8 : w5.heap.size < w6.heap.size := by omega
    go_wp2
    rw [rounds_succ]
    go_wp2_with fail
    refine (to_v (dr_2 mL) (rdot_any _ _ _ _ _ _ _ _ _ _ _ _ _)).mono ?_
    rintro e w7 ⟨rfl, hb7⟩
    obtain ⟨hc7, hf7⟩ := bcell hb7
    have hz7 := hb7.size
    try simp at hz7
    have z7_0 : w.heap.size < w7.heap.size := by omega
    have z7_1 : w.heap.size + 1 < w7.heap.size := by omega
    have z7_2 : w.heap.size + 1 + 1 < w7.heap.size := by omega
    have z7_3 : w2.heap.size < w7.heap.size := by omega
    have z7_4 : w4.heap.size < w7.heap.size := by omega
    have z7_5 : w4.heap.size + 1 < w7.heap.size := by omega
    have z7_6 : w4.heap.size + 1 + 1 < w7.heap.size := by omega
    have z7_7 : w4.heap.size + 1 + 1 + 1 < w7.heap.size := by omega
    have z7_8 : w5.heap.size < w7.heap.size := by omega
    have z7_9 : w6.heap.size < w7.heap.size := by omega
    go_wp2
    rw [rounds_succ]
    go_wp2_with fail
    refine (to_v (dr_3 mL) (rdot_any _ _ _ _ _ _ _ _ _ _ _ _ _)).mono ?_
    rintro e w8 ⟨rfl, hb8⟩
    obtain ⟨hc8, hf8⟩ := bcell hb8
    have hz8 := hb8.size
    try simp at hz8
    have z8_0 : w.heap.size < w8.heap.size := by omega
    have z8_1 : w.heap.size + 1 < w8.heap.size := by omega
    have z8_2 : w.heap.size + 1 + 1 < w8.heap.size := by omega
    have z8_3 : w2.heap.size < w8.heap.size := by omega
    have z8_4 : w4.heap.size < w8.heap.size := by omega
    have z8_5 : w4.heap.size + 1 < w8.heap.size := by omega
    have z8_6 : w4.heap.size + 1 + 1 < w8.heap.size := by omega
    have z8_7 : w4.heap.size + 1 + 1 + 1 < w8.heap.size := by omega
    have z8_8 : w5.heap.size < w8.heap.size := by omega
    have z8_9 : w6.heap.size < w8.heap.size := by omega
    have z8_10 : w7.heap.size < w8.heap.size := by omega
    go_wp2
    rw [rounds_succ]
    go_wp2_with fail
    refine (to_v (dr_4 mL) (rdot_any _ _ _ _ _ _ _ _ _ _ _ _ _)).mono ?_
    rintro e w9 ⟨rfl, hb9⟩
    obtain ⟨hc9, hf9⟩ := bcell hb9
    have hz9 := hb9.size
    try simp at hz9
    have z9_0 : w.heap.size < w9.heap.size := by omega
    have z9_1 : w.heap.size + 1 < w9.heap.size := by omega
    have z9_2 : w.heap.size + 1 + 1 < w9.heap.size := by omega
    have z9_3 : w2.heap.size < w9.heap.size := by omega
    have z9_4 : w4.heap.size < w9.heap.size := by omega
    have z9_5 : w4.heap.size + 1 < w9.heap.size := by omega
    have z9_6 : w4.heap.size + 1 + 1 < w9.heap.size := by omega
    have z9_7 : w4.heap.size + 1 + 1 + 1 < w9.heap.size := by omega
    have z9_8 : w5.heap.size < w9.heap.size := by omega
    have z9_9 : w6.heap.size < w9.heap.size := by omega
    have z9_10 : w7.heap.size < w9.heap.size := by omega
    have z9_11 : w8.heap.size < w9.heap.size := by omega
    go_wp2
    rw [rounds_succ]
    go_wp2_with fail
    refine (to_v (dr_5 mL) (rdot_any _ _ _ _ _ _ _ _ _ _ _ _ _)).mono ?_
    rintro e w10 ⟨rfl, hb10⟩
    obtain ⟨hc10, hf10⟩ := bcell hb10
    have hz10 := hb10.size
    try simp at hz10
    have z10_0 : w.heap.size < w10.heap.size := by omega
    have z10_1 : w.heap.size + 1 < w10.heap.size := by omega
    have z10_2 : w.heap.size + 1 + 1 < w10.heap.size := by omega
    have z10_3 : w2.heap.size < w10.heap.size := by omega
    have z10_4 : w4.heap.size < w10.heap.size := by omega
    have z10_5 : w4.heap.size + 1 < w10.heap.size := by omega
    have z10_6 : w4.heap.size + 1 + 1 < w10.heap.size := by omega
    have z10_7 : w4.heap.size + 1 + 1 + 1 < w10.heap.size := by omega
    have z10_8 : w5.heap.size < w10.heap.size := by omega
    have z10_9 : w6.heap.size < w10.heap.size := by omega
    have z10_10 : w7.heap.size < w10.heap.size := by omega
    have z10_11 : w8.heap.size < w10.heap.size := by omega
    have z10_12 : w9.heap.size < w10.heap.size := by omega
    go_wp2
    rw [rounds_succ]
    have hl6 := HL.out
    have HBB : Below w4.heap.size w4 w10 := by
      repeat (first | exact Below.refl _ _ | assumption | exact Below.alloc (Below.refl _ _) (Nat.le_refl _) _ | refine Below.setCell ?_ (by first | (simp; done) | (simp; omega) | omega) _ | refine below_drewN ?_ _ | refine Below.alloc ?_ (by first | (simp; done) | (simp; omega) | omega) _ | refine Below.trans ?_ (Below.mono (by assumption) (by first | (simp; done) | (simp; omega) | omega)))
    have gm0 := (HBB.cell (p := ⟨w.heap.size, 0, none⟩) z4_0).trans fm0
    have gm1 := (HBB.cell (p := ⟨w.heap.size, 1, none⟩) z4_0).trans fm1
    have gm2 := (HBB.cell (p := ⟨w.heap.size, 2, none⟩) z4_0).trans fm2
    have gm3 := (HBB.cell (p := ⟨w.heap.size, 3, none⟩) z4_0).trans fm3
    have gm4 := (HBB.cell (p := ⟨w.heap.size, 4, none⟩) z4_0).trans fm4
    have gm5 := (HBB.cell (p := ⟨w.heap.size, 5, none⟩) z4_0).trans fm5
    have gp0 := (HBB.cell (p := ⟨w.heap.size + 1, 0, none⟩) z4_1).trans fp0
    have gp1 := (HBB.cell (p := ⟨w.heap.size + 1, 1, none⟩) z4_1).trans fp1
    have gp2 := (HBB.cell (p := ⟨w.heap.size + 1, 2, none⟩) z4_1).trans fp2
    have gp3 := (HBB.cell (p := ⟨w.heap.size + 1, 3, none⟩) z4_1).trans fp3
    have gp4 := (HBB.cell (p := ⟨w.heap.size + 1, 4, none⟩) z4_1).trans fp4
    have gp5 := (HBB.cell (p := ⟨w.heap.size + 1, 5, none⟩) z4_1).trans fp5
    have gp6 := (HBB.cell (p := ⟨w.heap.size + 1, 6, none⟩) z4_1).trans fp6
    have gp7 := (HBB.cell (p := ⟨w.heap.size + 1, 7, none⟩) z4_1).trans fp7
    have gp8 := (HBB.cell (p := ⟨w.heap.size + 1, 8, none⟩) z4_1).trans fp8
    have HW : Below w.heap.size w w10 := by
      repeat (first | exact Below.refl _ _ | assumption | exact Below.alloc (Below.refl _ _) (Nat.le_refl _) _ | refine Below.setCell ?_ (by first | (simp; done) | (simp; omega) | omega) _ | refine below_drewN ?_ _ | refine Below.alloc ?_ (by first | (simp; done) | (simp; omega) | omega) _ | refine Below.trans ?_ (Below.mono (by assumption) (by first | (simp; done) | (simp; omega) | omega)))
    have s0 : w.heap.size + 1 + 1 < w10.heap.size := by have := HBB.size; omega
    have s1 : w.heap.size < w10.heap.size := by omega
    have s2 : w.heap.size + 1 < w10.heap.size := by omega
    try clear fm0 fm1 fm2 fm3 fm4 fm5 fp0 fp1 fp2 fp3 fp4 fp5 fp6 fp7 fp8
    try clear hb1
    try clear hc1
    try clear hf1
    try clear hz1
    try clear hb2
    try clear hc2
    try clear hf2
    try clear hz2
    try clear hb3
    try clear hc3
    try clear hf3
    try clear hz3
    try clear hb4
    try clear hc4
    try clear hf4
    try clear hz4
    try clear hb5
    try clear hc5
    try clear hf5
    try clear hz5
    try clear hb6
    try clear hc6
    try clear hf6
    try clear hz6
    try clear hb7
    try clear hc7
    try clear hf7
    try clear hz7
    try clear hb8
    try clear hc8
    try clear hf8
    try clear hz8
    try clear hb9
    try clear hc9
    try clear hf9
    try clear hz9
    try clear hb10
    try clear hc10
    try clear hf10
    try clear hz10
    try clear z1_0
    try clear y1_0
    try clear z1_1
    try clear y1_1
    try clear z1_2
    try clear y1_2
    try clear z1_3
    try clear y1_3
    try clear z1_4
    try clear y1_4
    try clear z1_5
    try clear y1_5
    try clear z1_6
    try clear y1_6
    try clear z1_7
    try clear y1_7
    try clear z1_8
    try clear y1_8
    try clear z1_9
    try clear y1_9
    try clear z1_10
    try clear y1_10
    try clear z1_11
    try clear y1_11
    try clear z1_12
    try clear y1_12
    try clear z1_13
    try clear y1_13
    try clear z1_14
    try clear y1_14
    try clear z1_15
    try clear y1_15
    try clear z1_16
    try clear y1_16
    try clear z1_17
    try clear y1_17
    try clear z1_18
    try clear y1_18
    try clear z1_19
    try clear y1_19
    try clear z2_0
    try clear y2_0
    try clear z2_1
    try clear y2_1
    try clear z2_2
    try clear y2_2
    try clear z2_3
    try clear y2_3
    try clear z2_4
    try clear y2_4
    try clear z2_5
    try clear y2_5
    try clear z2_6
    try clear y2_6
    try clear z2_7
    try clear y2_7
    try clear z2_8
    try clear y2_8
    try clear z2_9
    try clear y2_9
    try clear z2_10
    try clear y2_10
    try clear z2_11
    try clear y2_11
    try clear z2_12
    try clear y2_12
    try clear z2_13
    try clear y2_13
    try clear z2_14
    try clear y2_14
    try clear z2_15
    try clear y2_15
    try clear z2_16
    try clear y2_16
    try clear z2_17
    try clear y2_17
    try clear z2_18
    try clear y2_18
    try clear z2_19
    try clear y2_19
    try clear z3_0
    try clear y3_0
    try clear z3_1
    try clear y3_1
    try clear z3_2
    try clear y3_2
    try clear z3_3
    try clear y3_3
    try clear z3_4
    try clear y3_4
    try clear z3_5
    try clear y3_5
    try clear z3_6
    try clear y3_6
    try clear z3_7
    try clear y3_7
    try clear z3_8
    try clear y3_8
    try clear z3_9
    try clear y3_9
    try clear z3_10
    try clear y3_10
    try clear z3_11
    try clear y3_11
    try clear z3_12
    try clear y3_12
    try clear z3_13
    try clear y3_13
    try clear z3_14
    try clear y3_14
    try clear z3_15
    try clear y3_15
    try clear z3_16
    try clear y3_16
    try clear z3_17
    try clear y3_17
    try clear z3_18
    try clear y3_18
    try clear z3_19
    try clear y3_19
    try clear z4_0
    try clear y4_0
    try clear z4_1
    try clear y4_1
    try clear z4_2
    try clear y4_2
    try clear z4_3
    try clear y4_3
    try clear z4_4
    try clear y4_4
    try clear z4_5
    try clear y4_5
    try clear z4_6
    try clear y4_6
    try clear z4_7
    try clear y4_7
    try clear z4_8
    try clear y4_8
    try clear z4_9
    try clear y4_9
    try clear z4_10
    try clear y4_10
    try clear z4_11
    try clear y4_11
    try clear z4_12
    try clear y4_12
    try clear z4_13
    try clear y4_13
    try clear z4_14
    try clear y4_14
    try clear z4_15
    try clear y4_15
    try clear z4_16
    try clear y4_16
    try clear z4_17
    try clear y4_17
    try clear z4_18
    try clear y4_18
    try clear z4_19
    try clear y4_19
    try clear z5_0
    try clear y5_0
    try clear z5_1
    try clear y5_1
    try clear z5_2
    try clear y5_2
    try clear z5_3
    try clear y5_3
    try clear z5_4
    try clear y5_4
    try clear z5_5
    try clear y5_5
    try clear z5_6
    try clear y5_6
    try clear z5_7
    try clear y5_7
    try clear z5_8
    try clear y5_8
    try clear z5_9
    try clear y5_9
    try clear z5_10
    try clear y5_10
    try clear z5_11
    try clear y5_11
    try clear z5_12
    try clear y5_12
    try clear z5_13
    try clear y5_13
    try clear z5_14
    try clear y5_14
    try clear z5_15
    try clear y5_15
    try clear z5_16
    try clear y5_16
    try clear z5_17
    try clear y5_17
    try clear z5_18
    try clear y5_18
    try clear z5_19
    try clear y5_19
    try clear z6_0
    try clear y6_0
    try clear z6_1
    try clear y6_1
    try clear z6_2
    try clear y6_2
    try clear z6_3
    try clear y6_3
    try clear z6_4
    try clear y6_4
    try clear z6_5
    try clear y6_5
    try clear z6_6
    try clear y6_6
    try clear z6_7
    try clear y6_7
    try clear z6_8
    try clear y6_8
    try clear z6_9
    try clear y6_9
    try clear z6_10
    try clear y6_10
    try clear z6_11
    try clear y6_11
    try clear z6_12
    try clear y6_12
    try clear z6_13
    try clear y6_13
    try clear z6_14
    try clear y6_14
    try clear z6_15
    try clear y6_15
    try clear z6_16
    try clear y6_16
    try clear z6_17
    try clear y6_17
    try clear z6_18
    try clear y6_18
    try clear z6_19
    try clear y6_19
    try clear z7_0
    try clear y7_0
    try clear z7_1
    try clear y7_1
    try clear z7_2
    try clear y7_2
    try clear z7_3
    try clear y7_3
    try clear z7_4
    try clear y7_4
    try clear z7_5
    try clear y7_5
    try clear z7_6
    try clear y7_6
    try clear z7_7
    try clear y7_7
    try clear z7_8
    try clear y7_8
    try clear z7_9
    try clear y7_9
    try clear z7_10
    try clear y7_10
    try clear z7_11
    try clear y7_11
    try clear z7_12
    try clear y7_12
    try clear z7_13
    try clear y7_13
    try clear z7_14
    try clear y7_14
    try clear z7_15
    try clear y7_15
    try clear z7_16
    try clear y7_16
    try clear z7_17
    try clear y7_17
    try clear z7_18
    try clear y7_18
    try clear z7_19
    try clear y7_19
    try clear z8_0
    try clear y8_0
    try clear z8_1
    try clear y8_1
    try clear z8_2
    try clear y8_2
    try clear z8_3
    try clear y8_3
    try clear z8_4
    try clear y8_4
    try clear z8_5
    try clear y8_5
    try clear z8_6
    try clear y8_6
    try clear z8_7
    try clear y8_7
    try clear z8_8
    try clear y8_8
    try clear z8_9
    try clear y8_9
    try clear z8_10
    try clear y8_10
    try clear z8_11
    try clear y8_11
    try clear z8_12
    try clear y8_12
    try clear z8_13
    try clear y8_13
    try clear z8_14
    try clear y8_14
    try clear z8_15
    try clear y8_15
    try clear z8_16
    try clear y8_16
    try clear z8_17
    try clear y8_17
    try clear z8_18
    try clear y8_18
    try clear z8_19
    try clear y8_19
    try clear z9_0
    try clear y9_0
    try clear z9_1
    try clear y9_1
    try clear z9_2
    try clear y9_2
    try clear z9_3
    try clear y9_3
    try clear z9_4
    try clear y9_4
    try clear z9_5
    try clear y9_5
    try clear z9_6
    try clear y9_6
    try clear z9_7
    try clear y9_7
    try clear z9_8
    try clear y9_8
    try clear z9_9
    try clear y9_9
    try clear z9_10
    try clear y9_10
    try clear z9_11
    try clear y9_11
    try clear z9_12
    try clear y9_12
    try clear z9_13
    try clear y9_13
    try clear z9_14
    try clear y9_14
    try clear z9_15
    try clear y9_15
    try clear z9_16
    try clear y9_16
    try clear z9_17
    try clear y9_17
    try clear z9_18
    try clear y9_18
    try clear z9_19
    try clear y9_19
    try clear z10_0
    try clear y10_0
    try clear z10_1
    try clear y10_1
    try clear z10_2
    try clear y10_2
    try clear z10_3
    try clear y10_3
    try clear z10_4
    try clear y10_4
    try clear z10_5
    try clear y10_5
    try clear z10_6
    try clear y10_6
    try clear z10_7
    try clear y10_7
    try clear z10_8
    try clear y10_8
    try clear z10_9
    try clear y10_9
    try clear z10_10
    try clear y10_10
    try clear z10_11
    try clear y10_11
    try clear z10_12
    try clear y10_12
    try clear z10_13
    try clear y10_13
    try clear z10_14
    try clear y10_14
    try clear z10_15
    try clear y10_15
    try clear z10_16
    try clear y10_16
    try clear z10_17
    try clear y10_17
    try clear z10_18
    try clear y10_18
    try clear z10_19
    try clear y10_19
    try clear yv yb0 yb1 yb2
    clear HBB
    have hz10 := HW.size
    go_wp2_with fail
    by_cases hF : formC p00 p01 p02 p10 p11 p12 p20 p21 p22 = 0
    · have hT := HT.out hF
      go_wp2_with fail
      refine (hT _).mono ?_
      rintro e w11 ⟨rfl, hb11⟩
      obtain ⟨hc11, hf11⟩ := bcell hb11
      have hz11 := hb11.size
      try simp at hz11
      have z11_0 : w.heap.size < w11.heap.size := by omega
      have z11_1 : w.heap.size + 1 < w11.heap.size := by omega
      have z11_2 : w.heap.size + 1 + 1 < w11.heap.size := by omega
      go_wp2_with fail
      by_cases hb : chk bm = 0
      · have HVV := HV.out hF hb
        have EC := Lib.hid hb; clear hb
        go_wp2_with fail
        refine (to_v (congrArg (Value.int .i64) EC.out) (check_any _ _ _ _ _ _ _)).mono ?_
        rintro e w12 ⟨rfl, hb12⟩
        obtain ⟨hc12, hf12⟩ := bcell hb12
        have hz12 := hb12.size
        try simp at hz12
        have z12_0 : w.heap.size < w12.heap.size := by omega
        have z12_1 : w.heap.size + 1 < w12.heap.size := by omega
        have z12_2 : w.heap.size + 1 + 1 < w12.heap.size := by omega
        have z12_3 : w11.heap.size < w12.heap.size := by omega
        have yq : w11.heap.size < w11.heap.size + 1 := by omega
        go_wp2_with fail
        refine (HVV _).mono ?_
        rintro e w13 ⟨rfl, hb13⟩
        obtain ⟨hc13, hf13⟩ := bcell hb13
        have hz13 := hb13.size
        try simp at hz13
        have z13_0 : w.heap.size < w13.heap.size := by omega
        have z13_1 : w.heap.size + 1 < w13.heap.size := by omega
        have z13_2 : w.heap.size + 1 + 1 < w13.heap.size := by omega
        have z13_3 : w11.heap.size < w13.heap.size := by omega
        go_wp2
        go_ret
        refine ⟨rfl, ?_⟩
        repeat (first | exact Below.refl _ _ | assumption | exact Below.alloc (Below.refl _ _) (Nat.le_refl _) _ | refine Below.setCell ?_ (by first | (simp; done) | (simp; omega) | omega) _ | refine below_drewN ?_ _ | refine Below.alloc ?_ (by first | (simp; done) | (simp; omega) | omega) _ | refine Below.trans ?_ (Below.mono (by assumption) (by first | (simp; done) | (simp; omega) | omega)))
      · obtain ⟨Cq, eC⟩ : ∃ x, chk bm = x := ⟨_, rfl⟩
        have hCz : Cq ≠ 0 := by rw [← eC]; exact hb
        have EC := Lib.hid eC; clear eC hb
        go_wp2_with fail
        refine (to_v (congrArg (Value.int .i64) EC.out) (check_any _ _ _ _ _ _ _)).mono ?_
        rintro e w12 ⟨rfl, hb12⟩
        obtain ⟨hc12, hf12⟩ := bcell hb12
        have hz12 := hb12.size
        try simp at hz12
        have z12_0 : w.heap.size < w12.heap.size := by omega
        have z12_1 : w.heap.size + 1 < w12.heap.size := by omega
        have z12_2 : w.heap.size + 1 + 1 < w12.heap.size := by omega
        have z12_3 : w11.heap.size < w12.heap.size := by omega
        go_wp2
        go_ret
        refine ⟨rfl, ?_⟩
        repeat (first | exact Below.refl _ _ | assumption | exact Below.alloc (Below.refl _ _) (Nat.le_refl _) _ | refine Below.setCell ?_ (by first | (simp; done) | (simp; omega) | omega) _ | refine below_drewN ?_ _ | refine Below.alloc ?_ (by first | (simp; done) | (simp; omega) | omega) _ | refine Below.trans ?_ (Below.mono (by assumption) (by first | (simp; done) | (simp; omega) | omega)))
    · have hT : ∀ w, Calls Try.prog 24 #[.agg #[.int .i64 m.aa, .int .i64 m.bb, .int .i64 m.cc, .int .i64 m.bc, .int .i64 m.ac, .int .i64 m.ab], .agg #[.int .i64 p00, .int .i64 p01, .int .i64 p02, .int .i64 p10, .int .i64 p11, .int .i64 p12, .int .i64 p20, .int .i64 p21, .int .i64 p22]] w fun e w' => e = .returned (.tuple #[.agg #[.int .i64 0, .int .i64 0, .int .i64 0, .int .i64 0, .int .i64 0, .int .i64 0], .int .i64 (formC p00 p01 p02 p10 p11 p12 p20 p21 p22)]) ∧ Below w.heap.size w w' := fun w => Turned_bad m p00 p01 p02 p10 p11 p12 p20 p21 p22 0 _ (formC p00 p01 p02 p10 p11 p12 p20 p21 p22) w h rfl (by have := formC_vals p00 p01 p02 p10 p11 p12 p20 p21 p22; omega)
      obtain ⟨X, eX⟩ : ∃ x, x = formC p00 p01 p02 p10 p11 p12 p20 p21 p22 := ⟨_, rfl⟩
      rw [← eX] at hT
      have hX : X ≠ 0 := by rw [eX]; exact hF
      clear eX hF
      go_wp2_with fail
      refine (hT _).mono ?_
      rintro e w11 ⟨rfl, hb11⟩
      obtain ⟨hc11, hf11⟩ := bcell hb11
      have hz11 := hb11.size
      try simp at hz11
      have z11_0 : w.heap.size < w11.heap.size := by omega
      have z11_1 : w.heap.size + 1 < w11.heap.size := by omega
      have z11_2 : w.heap.size + 1 + 1 < w11.heap.size := by omega
      go_wp2
      go_ret
      refine ⟨rfl, ?_⟩
      repeat (first | exact Below.refl _ _ | assumption | exact Below.alloc (Below.refl _ _) (Nat.le_refl _) _ | refine Below.setCell ?_ (by first | (simp; done) | (simp; omega) | omega) _ | refine below_drewN ?_ _ | refine Below.alloc ?_ (by first | (simp; done) | (simp; omega) | omega) _ | refine Below.trans ?_ (Below.mono (by assumption) (by first | (simp; done) | (simp; omega) | omega)))
  · go_wp2_with fail
    refine (B2.out _).mono ?_
    rintro e w3 ⟨rfl, hb3⟩
    obtain ⟨hc3, hf3⟩ := bcell hb3
    have hz3 := hb3.size
    try simp at hz3
    have z3_0 : w.heap.size < w3.heap.size := by omega
    have z3_1 : w.heap.size + 1 < w3.heap.size := by omega
    have z3_2 : w.heap.size + 1 + 1 < w3.heap.size := by omega
    have z3_3 : w2.heap.size < w3.heap.size := by omega
    have fm0 : w3.cell? ⟨w.heap.size, 0, none⟩ = some (.int .i64 m.aa) := by go_simp
    have fm1 : w3.cell? ⟨w.heap.size, 1, none⟩ = some (.int .i64 m.bb) := by go_simp
    have fm2 : w3.cell? ⟨w.heap.size, 2, none⟩ = some (.int .i64 m.cc) := by go_simp
    have fm3 : w3.cell? ⟨w.heap.size, 3, none⟩ = some (.int .i64 m.bc) := by go_simp
    have fm4 : w3.cell? ⟨w.heap.size, 4, none⟩ = some (.int .i64 m.ac) := by go_simp
    have fm5 : w3.cell? ⟨w.heap.size, 5, none⟩ = some (.int .i64 m.ab) := by go_simp
    have fp0 : w3.cell? ⟨w.heap.size + 1, 0, none⟩ = some (.int .i64 p00) := by go_simp
    have fp1 : w3.cell? ⟨w.heap.size + 1, 1, none⟩ = some (.int .i64 p01) := by go_simp
    have fp2 : w3.cell? ⟨w.heap.size + 1, 2, none⟩ = some (.int .i64 p02) := by go_simp
    have fp3 : w3.cell? ⟨w.heap.size + 1, 3, none⟩ = some (.int .i64 p10) := by go_simp
    have fp4 : w3.cell? ⟨w.heap.size + 1, 4, none⟩ = some (.int .i64 p11) := by go_simp
    have fp5 : w3.cell? ⟨w.heap.size + 1, 5, none⟩ = some (.int .i64 p12) := by go_simp
    have fp6 : w3.cell? ⟨w.heap.size + 1, 6, none⟩ = some (.int .i64 p20) := by go_simp
    have fp7 : w3.cell? ⟨w.heap.size + 1, 7, none⟩ = some (.int .i64 p21) := by go_simp
    have fp8 : w3.cell? ⟨w.heap.size + 1, 8, none⟩ = some (.int .i64 p22) := by go_simp
    go_wp2
    refine wp_loop_rounds 7 ?_
    rw [rounds_succ]
    go_wp2_with fail
    refine (to_v (dr_0 mL) (rdot_any _ _ _ _ _ _ _ _ _ _ _ _ _)).mono ?_
    rintro e w4 ⟨rfl, hb4⟩
    obtain ⟨hc4, hf4⟩ := bcell hb4
    have hz4 := hb4.size
    try simp at hz4
    have z4_0 : w.heap.size < w4.heap.size := by omega
    have z4_1 : w.heap.size + 1 < w4.heap.size := by omega
    have z4_2 : w.heap.size + 1 + 1 < w4.heap.size := by omega
    have z4_3 : w2.heap.size < w4.heap.size := by omega
    have z4_4 : w3.heap.size < w4.heap.size := by omega
    have z4_5 : w3.heap.size + 1 < w4.heap.size := by omega
    have z4_6 : w3.heap.size + 1 + 1 < w4.heap.size := by omega
    have z4_7 : w3.heap.size + 1 + 1 + 1 < w4.heap.size := by omega
    go_wp2
    rw [rounds_succ]
    go_wp2_with fail
    refine (to_v (dr_1 mL) (rdot_any _ _ _ _ _ _ _ _ _ _ _ _ _)).mono ?_
    rintro e w5 ⟨rfl, hb5⟩
    obtain ⟨hc5, hf5⟩ := bcell hb5
    have hz5 := hb5.size
    try simp at hz5
    have z5_0 : w.heap.size < w5.heap.size := by omega
    have z5_1 : w.heap.size + 1 < w5.heap.size := by omega
    have z5_2 : w.heap.size + 1 + 1 < w5.heap.size := by omega
    have z5_3 : w2.heap.size < w5.heap.size := by omega
    have z5_4 : w3.heap.size < w5.heap.size := by omega
    have z5_5 : w3.heap.size + 1 < w5.heap.size := by omega
    have z5_6 : w3.heap.size + 1 + 1 < w5.heap.size := by omega
    have z5_7 : w3.heap.size + 1 + 1 + 1 < w5.heap.size := by omega
    have z5_8 : w4.heap.size < w5.heap.size := by omega
    go_wp2
    rw [rounds_succ]
    go_wp2_with fail
    refine (to_v (dr_2 mL) (rdot_any _ _ _ _ _ _ _ _ _ _ _ _ _)).mono ?_
    rintro e w6 ⟨rfl, hb6⟩
    obtain ⟨hc6, hf6⟩ := bcell hb6
    have hz6 := hb6.size
    try simp at hz6
    have z6_0 : w.heap.size < w6.heap.size := by omega
    have z6_1 : w.heap.size + 1 < w6.heap.size := by omega
    have z6_2 : w.heap.size + 1 + 1 < w6.heap.size := by omega
    have z6_3 : w2.heap.size < w6.heap.size := by omega
    have z6_4 : w3.heap.size < w6.heap.size := by omega
    have z6_5 : w3.heap.size + 1 < w6.heap.size := by omega
    have z6_6 : w3.heap.size + 1 + 1 < w6.heap.size := by omega
    have z6_7 : w3.heap.size + 1 + 1 + 1 < w6.heap.size := by omega
    have z6_8 : w4.heap.size < w6.heap.size := by omega
    have z6_9 : w5.heap.size < w6.heap.size := by omega
    go_wp2
    rw [rounds_succ]
    go_wp2_with fail
    refine (to_v (dr_3 mL) (rdot_any _ _ _ _ _ _ _ _ _ _ _ _ _)).mono ?_
    rintro e w7 ⟨rfl, hb7⟩
    obtain ⟨hc7, hf7⟩ := bcell hb7
    have hz7 := hb7.size
    try simp at hz7
    have z7_0 : w.heap.size < w7.heap.size := by omega
    have z7_1 : w.heap.size + 1 < w7.heap.size := by omega
    have z7_2 : w.heap.size + 1 + 1 < w7.heap.size := by omega
    have z7_3 : w2.heap.size < w7.heap.size := by omega
    have z7_4 : w3.heap.size < w7.heap.size := by omega
    have z7_5 : w3.heap.size + 1 < w7.heap.size := by omega
    have z7_6 : w3.heap.size + 1 + 1 < w7.heap.size := by omega
    have z7_7 : w3.heap.size + 1 + 1 + 1 < w7.heap.size := by omega
    have z7_8 : w4.heap.size < w7.heap.size := by omega
    have z7_9 : w5.heap.size < w7.heap.size := by omega
    have z7_10 : w6.heap.size < w7.heap.size := by omega
    go_wp2
    rw [rounds_succ]
    go_wp2_with fail
    refine (to_v (dr_4 mL) (rdot_any _ _ _ _ _ _ _ _ _ _ _ _ _)).mono ?_
    rintro e w8 ⟨rfl, hb8⟩
    obtain ⟨hc8, hf8⟩ := bcell hb8
    have hz8 := hb8.size
    try simp at hz8
    have z8_0 : w.heap.size < w8.heap.size := by omega
    have z8_1 : w.heap.size + 1 < w8.heap.size := by omega
    have z8_2 : w.heap.size + 1 + 1 < w8.heap.size := by omega
    have z8_3 : w2.heap.size < w8.heap.size := by omega
    have z8_4 : w3.heap.size < w8.heap.size := by omega
    have z8_5 : w3.heap.size + 1 < w8.heap.size := by omega
    have z8_6 : w3.heap.size + 1 + 1 < w8.heap.size := by omega
    have z8_7 : w3.heap.size + 1 + 1 + 1 < w8.heap.size := by omega
    have z8_8 : w4.heap.size < w8.heap.size := by omega
    have z8_9 : w5.heap.size < w8.heap.size := by omega
    have z8_10 : w6.heap.size < w8.heap.size := by omega
    have z8_11 : w7.heap.size < w8.heap.size := by omega
    go_wp2
    rw [rounds_succ]
    go_wp2_with fail
    refine (to_v (dr_5 mL) (rdot_any _ _ _ _ _ _ _ _ _ _ _ _ _)).mono ?_
    rintro e w9 ⟨rfl, hb9⟩
    obtain ⟨hc9, hf9⟩ := bcell hb9
    have hz9 := hb9.size
    try simp at hz9
    have z9_0 : w.heap.size < w9.heap.size := by omega
    have z9_1 : w.heap.size + 1 < w9.heap.size := by omega
    have z9_2 : w.heap.size + 1 + 1 < w9.heap.size := by omega
    have z9_3 : w2.heap.size < w9.heap.size := by omega
    have z9_4 : w3.heap.size < w9.heap.size := by omega
    have z9_5 : w3.heap.size + 1 < w9.heap.size := by omega
    have z9_6 : w3.heap.size + 1 + 1 < w9.heap.size := by omega
    have z9_7 : w3.heap.size + 1 + 1 + 1 < w9.heap.size := by omega
    have z9_8 : w4.heap.size < w9.heap.size := by omega
    have z9_9 : w5.heap.size < w9.heap.size := by omega
    have z9_10 : w6.heap.size < w9.heap.size := by omega
    have z9_11 : w7.heap.size < w9.heap.size := by omega
    have z9_12 : w8.heap.size < w9.heap.size := by omega
    go_wp2
    rw [rounds_succ]
    have hl6 := HL.out
    have HBB : Below w3.heap.size w3 w9 := by
      repeat (first | exact Below.refl _ _ | assumption | exact Below.alloc (Below.refl _ _) (Nat.le_refl _) _ | refine Below.setCell ?_ (by first | (simp; done) | (simp; omega) | omega) _ | refine below_drewN ?_ _ | refine Below.alloc ?_ (by first | (simp; done) | (simp; omega) | omega) _ | refine Below.trans ?_ (Below.mono (by assumption) (by first | (simp; done) | (simp; omega) | omega)))
    have gm0 := (HBB.cell (p := ⟨w.heap.size, 0, none⟩) z3_0).trans fm0
    have gm1 := (HBB.cell (p := ⟨w.heap.size, 1, none⟩) z3_0).trans fm1
    have gm2 := (HBB.cell (p := ⟨w.heap.size, 2, none⟩) z3_0).trans fm2
    have gm3 := (HBB.cell (p := ⟨w.heap.size, 3, none⟩) z3_0).trans fm3
    have gm4 := (HBB.cell (p := ⟨w.heap.size, 4, none⟩) z3_0).trans fm4
    have gm5 := (HBB.cell (p := ⟨w.heap.size, 5, none⟩) z3_0).trans fm5
    have gp0 := (HBB.cell (p := ⟨w.heap.size + 1, 0, none⟩) z3_1).trans fp0
    have gp1 := (HBB.cell (p := ⟨w.heap.size + 1, 1, none⟩) z3_1).trans fp1
    have gp2 := (HBB.cell (p := ⟨w.heap.size + 1, 2, none⟩) z3_1).trans fp2
    have gp3 := (HBB.cell (p := ⟨w.heap.size + 1, 3, none⟩) z3_1).trans fp3
    have gp4 := (HBB.cell (p := ⟨w.heap.size + 1, 4, none⟩) z3_1).trans fp4
    have gp5 := (HBB.cell (p := ⟨w.heap.size + 1, 5, none⟩) z3_1).trans fp5
    have gp6 := (HBB.cell (p := ⟨w.heap.size + 1, 6, none⟩) z3_1).trans fp6
    have gp7 := (HBB.cell (p := ⟨w.heap.size + 1, 7, none⟩) z3_1).trans fp7
    have gp8 := (HBB.cell (p := ⟨w.heap.size + 1, 8, none⟩) z3_1).trans fp8
    have HW : Below w.heap.size w w9 := by
      repeat (first | exact Below.refl _ _ | assumption | exact Below.alloc (Below.refl _ _) (Nat.le_refl _) _ | refine Below.setCell ?_ (by first | (simp; done) | (simp; omega) | omega) _ | refine below_drewN ?_ _ | refine Below.alloc ?_ (by first | (simp; done) | (simp; omega) | omega) _ | refine Below.trans ?_ (Below.mono (by assumption) (by first | (simp; done) | (simp; omega) | omega)))
    have s0 : w.heap.size + 1 + 1 < w9.heap.size := by have := HBB.size; omega
    have s1 : w.heap.size < w9.heap.size := by omega
    have s2 : w.heap.size + 1 < w9.heap.size := by omega
    try clear fm0 fm1 fm2 fm3 fm4 fm5 fp0 fp1 fp2 fp3 fp4 fp5 fp6 fp7 fp8
    try clear hb1
    try clear hc1
    try clear hf1
    try clear hz1
    try clear hb2
    try clear hc2
    try clear hf2
    try clear hz2
    try clear hb3
    try clear hc3
    try clear hf3
    try clear hz3
    try clear hb4
    try clear hc4
    try clear hf4
    try clear hz4
    try clear hb5
    try clear hc5
    try clear hf5
    try clear hz5
    try clear hb6
    try clear hc6
    try clear hf6
    try clear hz6
    try clear hb7
    try clear hc7
    try clear hf7
    try clear hz7
    try clear hb8
    try clear hc8
    try clear hf8
    try clear hz8
    try clear hb9
    try clear hc9
    try clear hf9
    try clear hz9
    try clear z1_0
    try clear y1_0
    try clear z1_1
    try clear y1_1
    try clear z1_2
    try clear y1_2
    try clear z1_3
    try clear y1_3
    try clear z1_4
    try clear y1_4
    try clear z1_5
    try clear y1_5
    try clear z1_6
    try clear y1_6
    try clear z1_7
    try clear y1_7
    try clear z1_8
    try clear y1_8
    try clear z1_9
    try clear y1_9
    try clear z1_10
    try clear y1_10
    try clear z1_11
    try clear y1_11
    try clear z1_12
    try clear y1_12
    try clear z1_13
    try clear y1_13
    try clear z1_14
    try clear y1_14
    try clear z1_15
    try clear y1_15
    try clear z1_16
    try clear y1_16
    try clear z1_17
    try clear y1_17
    try clear z1_18
    try clear y1_18
    try clear z1_19
    try clear y1_19
    try clear z2_0
    try clear y2_0
    try clear z2_1
    try clear y2_1
    try clear z2_2
    try clear y2_2
    try clear z2_3
    try clear y2_3
    try clear z2_4
    try clear y2_4
    try clear z2_5
    try clear y2_5
    try clear z2_6
    try clear y2_6
    try clear z2_7
    try clear y2_7
    try clear z2_8
    try clear y2_8
    try clear z2_9
    try clear y2_9
    try clear z2_10
    try clear y2_10
    try clear z2_11
    try clear y2_11
    try clear z2_12
    try clear y2_12
    try clear z2_13
    try clear y2_13
    try clear z2_14
    try clear y2_14
    try clear z2_15
    try clear y2_15
    try clear z2_16
    try clear y2_16
    try clear z2_17
    try clear y2_17
    try clear z2_18
    try clear y2_18
    try clear z2_19
    try clear y2_19
    try clear z3_0
    try clear y3_0
    try clear z3_1
    try clear y3_1
    try clear z3_2
    try clear y3_2
    try clear z3_3
    try clear y3_3
    try clear z3_4
    try clear y3_4
    try clear z3_5
    try clear y3_5
    try clear z3_6
    try clear y3_6
    try clear z3_7
    try clear y3_7
    try clear z3_8
    try clear y3_8
    try clear z3_9
    try clear y3_9
    try clear z3_10
    try clear y3_10
    try clear z3_11
    try clear y3_11
    try clear z3_12
    try clear y3_12
    try clear z3_13
    try clear y3_13
    try clear z3_14
    try clear y3_14
    try clear z3_15
    try clear y3_15
    try clear z3_16
    try clear y3_16
    try clear z3_17
    try clear y3_17
    try clear z3_18
    try clear y3_18
    try clear z3_19
    try clear y3_19
    try clear z4_0
    try clear y4_0
    try clear z4_1
    try clear y4_1
    try clear z4_2
    try clear y4_2
    try clear z4_3
    try clear y4_3
    try clear z4_4
    try clear y4_4
    try clear z4_5
    try clear y4_5
    try clear z4_6
    try clear y4_6
    try clear z4_7
    try clear y4_7
    try clear z4_8
    try clear y4_8
    try clear z4_9
    try clear y4_9
    try clear z4_10
    try clear y4_10
    try clear z4_11
    try clear y4_11
    try clear z4_12
    try clear y4_12
    try clear z4_13
    try clear y4_13
    try clear z4_14
    try clear y4_14
    try clear z4_15
    try clear y4_15
    try clear z4_16
    try clear y4_16
    try clear z4_17
    try clear y4_17
    try clear z4_18
    try clear y4_18
    try clear z4_19
    try clear y4_19
    try clear z5_0
    try clear y5_0
    try clear z5_1
    try clear y5_1
    try clear z5_2
    try clear y5_2
    try clear z5_3
    try clear y5_3
    try clear z5_4
    try clear y5_4
    try clear z5_5
    try clear y5_5
    try clear z5_6
    try clear y5_6
    try clear z5_7
    try clear y5_7
    try clear z5_8
    try clear y5_8
    try clear z5_9
    try clear y5_9
    try clear z5_10
    try clear y5_10
    try clear z5_11
    try clear y5_11
    try clear z5_12
    try clear y5_12
    try clear z5_13
    try clear y5_13
    try clear z5_14
    try clear y5_14
    try clear z5_15
    try clear y5_15
    try clear z5_16
    try clear y5_16
    try clear z5_17
    try clear y5_17
    try clear z5_18
    try clear y5_18
    try clear z5_19
    try clear y5_19
    try clear z6_0
    try clear y6_0
    try clear z6_1
    try clear y6_1
    try clear z6_2
    try clear y6_2
    try clear z6_3
    try clear y6_3
    try clear z6_4
    try clear y6_4
    try clear z6_5
    try clear y6_5
    try clear z6_6
    try clear y6_6
    try clear z6_7
    try clear y6_7
    try clear z6_8
    try clear y6_8
    try clear z6_9
    try clear y6_9
    try clear z6_10
    try clear y6_10
    try clear z6_11
    try clear y6_11
    try clear z6_12
    try clear y6_12
    try clear z6_13
    try clear y6_13
    try clear z6_14
    try clear y6_14
    try clear z6_15
    try clear y6_15
    try clear z6_16
    try clear y6_16
    try clear z6_17
    try clear y6_17
    try clear z6_18
    try clear y6_18
    try clear z6_19
    try clear y6_19
    try clear z7_0
    try clear y7_0
    try clear z7_1
    try clear y7_1
    try clear z7_2
    try clear y7_2
    try clear z7_3
    try clear y7_3
    try clear z7_4
    try clear y7_4
    try clear z7_5
    try clear y7_5
    try clear z7_6
    try clear y7_6
    try clear z7_7
    try clear y7_7
    try clear z7_8
    try clear y7_8
    try clear z7_9
    try clear y7_9
    try clear z7_10
    try clear y7_10
    try clear z7_11
    try clear y7_11
    try clear z7_12
    try clear y7_12
    try clear z7_13
    try clear y7_13
    try clear z7_14
    try clear y7_14
    try clear z7_15
    try clear y7_15
    try clear z7_16
    try clear y7_16
    try clear z7_17
    try clear y7_17
    try clear z7_18
    try clear y7_18
    try clear z7_19
    try clear y7_19
    try clear z8_0
    try clear y8_0
    try clear z8_1
    try clear y8_1
    try clear z8_2
    try clear y8_2
    try clear z8_3
    try clear y8_3
    try clear z8_4
    try clear y8_4
    try clear z8_5
    try clear y8_5
    try clear z8_6
    try clear y8_6
    try clear z8_7
    try clear y8_7
    try clear z8_8
    try clear y8_8
    try clear z8_9
    try clear y8_9
    try clear z8_10
    try clear y8_10
    try clear z8_11
    try clear y8_11
    try clear z8_12
    try clear y8_12
    try clear z8_13
    try clear y8_13
    try clear z8_14
    try clear y8_14
    try clear z8_15
    try clear y8_15
    try clear z8_16
    try clear y8_16
    try clear z8_17
    try clear y8_17
    try clear z8_18
    try clear y8_18
    try clear z8_19
    try clear y8_19
    try clear z9_0
    try clear y9_0
    try clear z9_1
    try clear y9_1
    try clear z9_2
    try clear y9_2
    try clear z9_3
    try clear y9_3
    try clear z9_4
    try clear y9_4
    try clear z9_5
    try clear y9_5
    try clear z9_6
    try clear y9_6
    try clear z9_7
    try clear y9_7
    try clear z9_8
    try clear y9_8
    try clear z9_9
    try clear y9_9
    try clear z9_10
    try clear y9_10
    try clear z9_11
    try clear y9_11
    try clear z9_12
    try clear y9_12
    try clear z9_13
    try clear y9_13
    try clear z9_14
    try clear y9_14
    try clear z9_15
    try clear y9_15
    try clear z9_16
    try clear y9_16
    try clear z9_17
    try clear y9_17
    try clear z9_18
    try clear y9_18
    try clear z9_19
    try clear y9_19
    try clear yv yb0 yb1 yb2
    clear HBB
    have hz9 := HW.size
    go_wp2_with fail
    by_cases hF : formC p00 p01 p02 p10 p11 p12 p20 p21 p22 = 0
    · have hT := HT.out hF
      go_wp2_with fail
      refine (hT _).mono ?_
      rintro e w10 ⟨rfl, hb10⟩
      obtain ⟨hc10, hf10⟩ := bcell hb10
      have hz10 := hb10.size
      try simp at hz10
      have z10_0 : w.heap.size < w10.heap.size := by omega
      have z10_1 : w.heap.size + 1 < w10.heap.size := by omega
      have z10_2 : w.heap.size + 1 + 1 < w10.heap.size := by omega
      go_wp2_with fail
      by_cases hb : chk bm = 0
      · have HVV := HV.out hF hb
        have EC := Lib.hid hb; clear hb
        go_wp2_with fail
        refine (to_v (congrArg (Value.int .i64) EC.out) (check_any _ _ _ _ _ _ _)).mono ?_
        rintro e w11 ⟨rfl, hb11⟩
        obtain ⟨hc11, hf11⟩ := bcell hb11
        have hz11 := hb11.size
        try simp at hz11
        have z11_0 : w.heap.size < w11.heap.size := by omega
        have z11_1 : w.heap.size + 1 < w11.heap.size := by omega
        have z11_2 : w.heap.size + 1 + 1 < w11.heap.size := by omega
        have z11_3 : w10.heap.size < w11.heap.size := by omega
        have yq : w10.heap.size < w10.heap.size + 1 := by omega
        go_wp2_with fail
        refine (HVV _).mono ?_
        rintro e w12 ⟨rfl, hb12⟩
        obtain ⟨hc12, hf12⟩ := bcell hb12
        have hz12 := hb12.size
        try simp at hz12
        have z12_0 : w.heap.size < w12.heap.size := by omega
        have z12_1 : w.heap.size + 1 < w12.heap.size := by omega
        have z12_2 : w.heap.size + 1 + 1 < w12.heap.size := by omega
        have z12_3 : w10.heap.size < w12.heap.size := by omega
        go_wp2
        go_ret
        refine ⟨rfl, ?_⟩
        repeat (first | exact Below.refl _ _ | assumption | exact Below.alloc (Below.refl _ _) (Nat.le_refl _) _ | refine Below.setCell ?_ (by first | (simp; done) | (simp; omega) | omega) _ | refine below_drewN ?_ _ | refine Below.alloc ?_ (by first | (simp; done) | (simp; omega) | omega) _ | refine Below.trans ?_ (Below.mono (by assumption) (by first | (simp; done) | (simp; omega) | omega)))
      · obtain ⟨Cq, eC⟩ : ∃ x, chk bm = x := ⟨_, rfl⟩
        have hCz : Cq ≠ 0 := by rw [← eC]; exact hb
        have EC := Lib.hid eC; clear eC hb
        go_wp2_with fail
        refine (to_v (congrArg (Value.int .i64) EC.out) (check_any _ _ _ _ _ _ _)).mono ?_
        rintro e w11 ⟨rfl, hb11⟩
        obtain ⟨hc11, hf11⟩ := bcell hb11
        have hz11 := hb11.size
        try simp at hz11
        have z11_0 : w.heap.size < w11.heap.size := by omega
        have z11_1 : w.heap.size + 1 < w11.heap.size := by omega
        have z11_2 : w.heap.size + 1 + 1 < w11.heap.size := by omega
        have z11_3 : w10.heap.size < w11.heap.size := by omega
        go_wp2
        go_ret
        refine ⟨rfl, ?_⟩
        repeat (first | exact Below.refl _ _ | assumption | exact Below.alloc (Below.refl _ _) (Nat.le_refl _) _ | refine Below.setCell ?_ (by first | (simp; done) | (simp; omega) | omega) _ | refine below_drewN ?_ _ | refine Below.alloc ?_ (by first | (simp; done) | (simp; omega) | omega) _ | refine Below.trans ?_ (Below.mono (by assumption) (by first | (simp; done) | (simp; omega) | omega)))
    · have hT : ∀ w, Calls Try.prog 24 #[.agg #[.int .i64 m.aa, .int .i64 m.bb, .int .i64 m.cc, .int .i64 m.bc, .int .i64 m.ac, .int .i64 m.ab], .agg #[.int .i64 p00, .int .i64 p01, .int .i64 p02, .int .i64 p10, .int .i64 p11, .int .i64 p12, .int .i64 p20, .int .i64 p21, .int .i64 p22]] w fun e w' => e = .returned (.tuple #[.agg #[.int .i64 0, .int .i64 0, .int .i64 0, .int .i64 0, .int .i64 0, .int .i64 0], .int .i64 (formC p00 p01 p02 p10 p11 p12 p20 p21 p22)]) ∧ Below w.heap.size w w' := fun w => Turned_bad m p00 p01 p02 p10 p11 p12 p20 p21 p22 0 _ (formC p00 p01 p02 p10 p11 p12 p20 p21 p22) w h rfl (by have := formC_vals p00 p01 p02 p10 p11 p12 p20 p21 p22; omega)
      obtain ⟨X, eX⟩ : ∃ x, x = formC p00 p01 p02 p10 p11 p12 p20 p21 p22 := ⟨_, rfl⟩
      rw [← eX] at hT
      have hX : X ≠ 0 := by rw [eX]; exact hF
      clear eX hF
      go_wp2_with fail
      refine (hT _).mono ?_
      rintro e w10 ⟨rfl, hb10⟩
      obtain ⟨hc10, hf10⟩ := bcell hb10
      have hz10 := hb10.size
      try simp at hz10
      have z10_0 : w.heap.size < w10.heap.size := by omega
      have z10_1 : w.heap.size + 1 < w10.heap.size := by omega
      have z10_2 : w.heap.size + 1 + 1 < w10.heap.size := by omega
      go_wp2
      go_ret
      refine ⟨rfl, ?_⟩
      repeat (first | exact Below.refl _ _ | assumption | exact Below.alloc (Below.refl _ _) (Nat.le_refl _) _ | refine Below.setCell ?_ (by first | (simp; done) | (simp; omega) | omega) _ | refine below_drewN ?_ _ | refine Below.alloc ?_ (by first | (simp; done) | (simp; omega) | omega) _ | refine Below.trans ?_ (Below.mono (by assumption) (by first | (simp; done) | (simp; omega) | omega)))

theorem vectors_any (aa bb cc bc ac ab p00 p01 p02 p10 p11 p12 p20 p21 p22 : Int) (u0 u1 u2 : Int) (w : World) (hu0 : -128 ≤ u0 ∧ u0 ≤ 127) (hu1 : -128 ≤ u1 ∧ u1 ≤ 127) (hu2 : -128 ≤ u2 ∧ u2 ≤ 127) : Calls Try.prog 8 #[.agg #[.int .i64 aa, .int .i64 bb, .int .i64 cc, .int .i64 bc, .int .i64 ac, .int .i64 ab], .agg #[.int .i64 p00, .int .i64 p01, .int .i64 p02, .int .i64 p10, .int .i64 p11, .int .i64 p12, .int .i64 p20, .int .i64 p21, .int .i64 p22], .agg #[.int .i8 u0, .int .i8 u1, .int .i8 u2]] w fun e w' => e = .returned (.bool true) ∧ Below w.heap.size w w' := by
  by_cases hC : chk ⟨aa, bb, cc, bc, ac, ab⟩ = 0
  · exact vectors_ok ⟨aa, bb, cc, bc, ac, ab⟩ p00 p01 p02 p10 p11 p12 p20 p21 p22 u0 u1 u2 w hC hu0 hu1 hu2
  · exact vectors_bad ⟨aa, bb, cc, bc, ac, ab⟩ p00 p01 p02 p10 p11 p12 p20 p21 p22 u0 u1 u2 _ w rfl hC
end Go.Proofs.Ytdhlkhockpblhaa
