/-
  DocStep: what it returns.
-/
import Derived.Test.YtdhlkhockpblhaaRedR
namespace Go.Proofs.Ytdhlkhockpblhaa
open Go.RowKit
attribute [local irreducible] World.setCell

set_option linter.unusedSimpArgs false
set_option linter.unusedVariables false

set_option maxHeartbeats 400000 in
theorem DocStep_bad (m : Met) (C : Int) (w : World) (h : chk m = C) (hC : C ≠ 0):
    Calls Try.prog 11 #[.agg #[.int .i64 m.aa, .int .i64 m.bb, .int .i64 m.cc, .int .i64 m.bc, .int .i64 m.ac, .int .i64 m.ab]] w fun e w' => e = .returned (.tuple #[.agg #[.int .i64 0, .int .i64 0, .int .i64 0, .int .i64 0, .int .i64 0, .int .i64 0], .agg #[.int .i64 0, .int .i64 0, .int .i64 0, .int .i64 0, .int .i64 0, .int .i64 0, .int .i64 0, .int .i64 0, .int .i64 0], .bool false, .int .i64 C]) ∧ Below w.heap.size w w' := by
  have E := Lib.hid h; clear h
  go_enter Try.func11, Try.ntmps11
  go_wp2_with fail
  refine (to_v (congrArg (Value.int .i64) E.out) (dcheck_any _ _ _ _ _ _ _)).mono ?_
  rintro e w1 ⟨rfl, hb1⟩
  obtain ⟨hc1, hf1⟩ := bcell hb1
  have hz1 := hb1.size
  try simp at hz1
  have z1_0 : w.heap.size < w1.heap.size := by omega
  have z1_1 : w.heap.size + 1 < w1.heap.size := by omega
  have z1_2 : w.heap.size + 1 + 1 < w1.heap.size := by omega
  go_wp2
  refine bodyPost_ret (v := .tuple #[.agg #[.int .i64 0, .int .i64 0, .int .i64 0, .int .i64 0, .int .i64 0, .int .i64 0], .agg #[.int .i64 0, .int .i64 0, .int .i64 0, .int .i64 0, .int .i64 0, .int .i64 0, .int .i64 0, .int .i64 0, .int .i64 0], .bool false, .int .i64 C]) (by simp [results, Try.results11, go_sem, wrap_add_l, wrap_add_r, wrap_sub_l, wrap_sub_r, wrap_mul_l, wrap_mul_r, wrap_neg, wrap_wrap, wrap3, *]) rfl ⟨rfl, ?_⟩
  repeat (first | exact Below.refl _ _ | assumption | exact Below.alloc (Below.refl _ _) (Nat.le_refl _) _ | refine Below.setCell ?_ (by first | (simp; done) | (simp; omega) | omega) _ | refine below_drewN ?_ _ | refine Below.alloc ?_ (by first | (simp; done) | (simp; omega) | omega) _ | refine Below.trans ?_ (Below.mono (by assumption) (by first | (simp; done) | (simp; omega) | omega)))

set_option maxHeartbeats 12800000 in
set_option maxRecDepth 100000 in
theorem DocStep_ok (m : Met) (w : World) (h : chk m = 0):
    Calls Try.prog 11 #[.agg #[.int .i64 m.aa, .int .i64 m.bb, .int .i64 m.cc, .int .i64 m.bc, .int .i64 m.ac, .int .i64 m.ab]] w fun e w' => e = .returned (.tuple #[.agg #[.int .i64 (nx (pick m) m).aa, .int .i64 (nx (pick m) m).bb, .int .i64 (nx (pick m) m).cc, .int .i64 (nx (pick m) m).bc, .int .i64 (nx (pick m) m).ac, .int .i64 (nx (pick m) m).ab], .agg #[.int .i64 (qk (pick m)).p00, .int .i64 (qk (pick m)).p01, .int .i64 (qk (pick m)).p02, .int .i64 (qk (pick m)).p10, .int .i64 (qk (pick m)).p11, .int .i64 (qk (pick m)).p12, .int .i64 (qk (pick m)).p20, .int .i64 (qk (pick m)).p21, .int .i64 (qk (pick m)).p22], .bool (decide (pick m < 6)), .int .i64 0]) ∧ Below w.heap.size w w' := by
  obtain ⟨mn, emn⟩ : ∃ x, x = nx (pick m) m := ⟨_, rfl⟩
  have rs := fun w => rstep_all m w
  have rm := fun w => rmet_all m w
  rw [← emn] at rs rm
  obtain ⟨g0, e0⟩ : ∃ x, x = wrap64 (mn.aa) := ⟨_, rfl⟩
  obtain ⟨g1, e1⟩ : ∃ x, x = wrap64 (mn.ab) := ⟨_, rfl⟩
  obtain ⟨g2, e2⟩ : ∃ x, x = wrap64 (mn.ac) := ⟨_, rfl⟩
  obtain ⟨g3, e3⟩ : ∃ x, x = wrap64 ((-1) * mn.aa + (-1) * mn.ac + (-1) * mn.ab) := ⟨_, rfl⟩
  obtain ⟨g4, e4⟩ : ∃ x, x = wrap64 (mn.ab) := ⟨_, rfl⟩
  obtain ⟨g5, e5⟩ : ∃ x, x = wrap64 (mn.bb) := ⟨_, rfl⟩
  obtain ⟨g6, e6⟩ : ∃ x, x = wrap64 (mn.bc) := ⟨_, rfl⟩
  obtain ⟨g7, e7⟩ : ∃ x, x = wrap64 ((-1) * mn.bb + (-1) * mn.bc + (-1) * mn.ab) := ⟨_, rfl⟩
  obtain ⟨g8, e8⟩ : ∃ x, x = wrap64 (mn.ac) := ⟨_, rfl⟩
  obtain ⟨g9, e9⟩ : ∃ x, x = wrap64 (mn.bc) := ⟨_, rfl⟩
  obtain ⟨g10, e10⟩ : ∃ x, x = wrap64 (mn.cc) := ⟨_, rfl⟩
  obtain ⟨g11, e11⟩ : ∃ x, x = wrap64 ((-1) * mn.cc + (-1) * mn.bc + (-1) * mn.ac) := ⟨_, rfl⟩
  obtain ⟨g12, e12⟩ : ∃ x, x = wrap64 ((-1) * mn.aa + (-1) * mn.ac + (-1) * mn.ab) := ⟨_, rfl⟩
  obtain ⟨g13, e13⟩ : ∃ x, x = wrap64 ((-1) * mn.bb + (-1) * mn.bc + (-1) * mn.ab) := ⟨_, rfl⟩
  obtain ⟨g14, e14⟩ : ∃ x, x = wrap64 ((-1) * mn.cc + (-1) * mn.bc + (-1) * mn.ac) := ⟨_, rfl⟩
  obtain ⟨g15, e15⟩ : ∃ x, x = wrap64 (mn.aa + mn.bb + mn.cc + 2 * mn.bc + 2 * mn.ac + 2 * mn.ab) := ⟨_, rfl⟩
  have ld := fun w => laid_M m w
  obtain ⟨l0, d0⟩ : ∃ x, x = wrap64 (m.aa) := ⟨_, rfl⟩
  obtain ⟨l1, d1⟩ : ∃ x, x = wrap64 (m.ab) := ⟨_, rfl⟩
  obtain ⟨l2, d2⟩ : ∃ x, x = wrap64 (m.ac) := ⟨_, rfl⟩
  obtain ⟨l3, d3⟩ : ∃ x, x = wrap64 ((-1) * m.aa + (-1) * m.ac + (-1) * m.ab) := ⟨_, rfl⟩
  obtain ⟨l4, d4⟩ : ∃ x, x = wrap64 (m.ab) := ⟨_, rfl⟩
  obtain ⟨l5, d5⟩ : ∃ x, x = wrap64 (m.bb) := ⟨_, rfl⟩
  obtain ⟨l6, d6⟩ : ∃ x, x = wrap64 (m.bc) := ⟨_, rfl⟩
  obtain ⟨l7, d7⟩ : ∃ x, x = wrap64 ((-1) * m.bb + (-1) * m.bc + (-1) * m.ab) := ⟨_, rfl⟩
  obtain ⟨l8, d8⟩ : ∃ x, x = wrap64 (m.ac) := ⟨_, rfl⟩
  obtain ⟨l9, d9⟩ : ∃ x, x = wrap64 (m.bc) := ⟨_, rfl⟩
  obtain ⟨l10, d10⟩ : ∃ x, x = wrap64 (m.cc) := ⟨_, rfl⟩
  obtain ⟨l11, d11⟩ : ∃ x, x = wrap64 ((-1) * m.cc + (-1) * m.bc + (-1) * m.ac) := ⟨_, rfl⟩
  obtain ⟨l12, d12⟩ : ∃ x, x = wrap64 ((-1) * m.aa + (-1) * m.ac + (-1) * m.ab) := ⟨_, rfl⟩
  obtain ⟨l13, d13⟩ : ∃ x, x = wrap64 ((-1) * m.bb + (-1) * m.bc + (-1) * m.ab) := ⟨_, rfl⟩
  obtain ⟨l14, d14⟩ : ∃ x, x = wrap64 ((-1) * m.cc + (-1) * m.bc + (-1) * m.ac) := ⟨_, rfl⟩
  obtain ⟨l15, d15⟩ : ∃ x, x = wrap64 (m.aa + m.bb + m.cc + 2 * m.bc + 2 * m.ac + 2 * m.ab) := ⟨_, rfl⟩
  simp only [← d0, ← d1, ← d2, ← d3, ← d4, ← d5, ← d6, ← d7, ← d8, ← d9, ← d10, ← d11, ← d12, ← d13, ← d14, ← d15] at rs ld
  simp only [← e0, ← e1, ← e2, ← e3, ← e4, ← e5, ← e6, ← e7, ← e8, ← e9, ← e10, ← e11, ← e12, ← e13, ← e14, ← e15] at rs rm
  have RS := Lib.hid rs; have RM := Lib.hid rm; have LD := Lib.hid ld; have EN := Lib.hid emn; clear rs rm ld emn e0 d0 e1 d1 e2 d2 e3 d3 e4 d4 e5 d5 e6 d6 e7 d7 e8 d8 e9 d9 e10 d10 e11 d11 e12 d12 e13 d13 e14 d14 e15 d15
  obtain ⟨q, eq⟩ : ∃ x, x = qk (pick m) := ⟨_, rfl⟩
  obtain ⟨bo, ebo⟩ : ∃ x, x = decide (pick m < 6) := ⟨_, rfl⟩
  rw [← eq, ← ebo] at RS
  have EQ := Lib.hid eq; have EBO := Lib.hid ebo; clear eq ebo
  have E := Lib.hid h; clear h
  go_enter Try.func11, Try.ntmps11
  go_wp2_with fail
  refine (to_v (congrArg (Value.int .i64) E.out) (dcheck_any _ _ _ _ _ _ _)).mono ?_
  rintro e w1 ⟨rfl, hb1⟩
  obtain ⟨hc1, hf1⟩ := bcell hb1
  have hz1 := hb1.size
  try simp at hz1
  have z1_0 : w.heap.size < w1.heap.size := by omega
  have z1_1 : w.heap.size + 1 < w1.heap.size := by omega
  have z1_2 : w.heap.size + 1 + 1 < w1.heap.size := by omega
  go_wp2_with fail
  refine (LD.out _).mono ?_
  rintro e w2 ⟨rfl, hb2⟩
  obtain ⟨hc2, hf2⟩ := bcell hb2
  have hz2 := hb2.size
  try simp at hz2
  have z2_0 : w.heap.size < w2.heap.size := by omega
  have z2_1 : w.heap.size + 1 < w2.heap.size := by omega
  have z2_2 : w.heap.size + 1 + 1 < w2.heap.size := by omega
  go_wp2_with fail
  refine (RS.out _).mono ?_
  rintro e w3 ⟨rfl, hb3⟩
  obtain ⟨hc3, hf3⟩ := bcell hb3
  have hz3 := hb3.size
  try simp at hz3
  have z3_0 : w.heap.size < w3.heap.size := by omega
  have z3_1 : w.heap.size + 1 < w3.heap.size := by omega
  have z3_2 : w.heap.size + 1 + 1 < w3.heap.size := by omega
  go_wp2
  go_region_held3 (fun w' => w'.cell? ⟨w3.heap.size, 0, none⟩ = some (.int .i64 g0) ∧ w'.cell? ⟨w3.heap.size, 1, none⟩ = some (.int .i64 g1) ∧ w'.cell? ⟨w3.heap.size, 2, none⟩ = some (.int .i64 g2) ∧ w'.cell? ⟨w3.heap.size, 3, none⟩ = some (.int .i64 g3) ∧ w'.cell? ⟨w3.heap.size, 4, none⟩ = some (.int .i64 g1) ∧ w'.cell? ⟨w3.heap.size, 5, none⟩ = some (.int .i64 g5) ∧ w'.cell? ⟨w3.heap.size, 6, none⟩ = some (.int .i64 g6) ∧ w'.cell? ⟨w3.heap.size, 7, none⟩ = some (.int .i64 g7) ∧ w'.cell? ⟨w3.heap.size, 8, none⟩ = some (.int .i64 g2) ∧ w'.cell? ⟨w3.heap.size, 9, none⟩ = some (.int .i64 g6) ∧ w'.cell? ⟨w3.heap.size, 10, none⟩ = some (.int .i64 g10) ∧ w'.cell? ⟨w3.heap.size, 11, none⟩ = some (.int .i64 g11) ∧ w'.cell? ⟨w3.heap.size, 12, none⟩ = some (.int .i64 g3) ∧ w'.cell? ⟨w3.heap.size, 13, none⟩ = some (.int .i64 g7) ∧ w'.cell? ⟨w3.heap.size, 14, none⟩ = some (.int .i64 g11) ∧ w'.cell? ⟨w3.heap.size, 15, none⟩ = some (.int .i64 g15) ∧ w'.cell? ⟨w3.heap.size + 1, 0, none⟩ = some (.int .i64 q.p00) ∧ w'.cell? ⟨w3.heap.size + 1, 1, none⟩ = some (.int .i64 q.p01) ∧ w'.cell? ⟨w3.heap.size + 1, 2, none⟩ = some (.int .i64 q.p02) ∧ w'.cell? ⟨w3.heap.size + 1, 3, none⟩ = some (.int .i64 q.p10) ∧ w'.cell? ⟨w3.heap.size + 1, 4, none⟩ = some (.int .i64 q.p11) ∧ w'.cell? ⟨w3.heap.size + 1, 5, none⟩ = some (.int .i64 q.p12) ∧ w'.cell? ⟨w3.heap.size + 1, 6, none⟩ = some (.int .i64 q.p20) ∧ w'.cell? ⟨w3.heap.size + 1, 7, none⟩ = some (.int .i64 q.p21) ∧ w'.cell? ⟨w3.heap.size + 1, 8, none⟩ = some (.int .i64 q.p22)) ((go_split_ands; (repeat' apply And.intro) <;> (repeat' (first | assumption | (go_simp; done) | refine keep_alloc ?_ | refine keep_set ?_ ?_ | (dsimp only; omega) | omega)))) (first | (go_at_call 43; refine (RM.out _).mono ?_; rintro e wT ⟨rfl, hbwT⟩; obtain ⟨hcwT, hfwT⟩ := bcell hbwT; have hzwT := hbwT.size; (try simp at hzwT); (try have zwT_0 : w.heap.size < wT.heap.size := (by omega)); (try have zwT_1 : w.heap.size + 1 < wT.heap.size := (by omega)); (try have zwT_2 : w.heap.size + 1 + 1 < wT.heap.size := (by omega)); (try have zwT_3 : w3.heap.size < wT.heap.size := (by omega)); have fwT0 : wT.cell? ⟨w3.heap.size, 0, none⟩ = some (.int .i64 g0) := (hcwT _ _ (by first | omega | (simp; done) | (simp; omega))).trans (by first | assumption | (go_simp; done)); have fwT1 : wT.cell? ⟨w3.heap.size, 1, none⟩ = some (.int .i64 g1) := (hcwT _ _ (by first | omega | (simp; done) | (simp; omega))).trans (by first | assumption | (go_simp; done)); have fwT2 : wT.cell? ⟨w3.heap.size, 2, none⟩ = some (.int .i64 g2) := (hcwT _ _ (by first | omega | (simp; done) | (simp; omega))).trans (by first | assumption | (go_simp; done)); have fwT3 : wT.cell? ⟨w3.heap.size, 3, none⟩ = some (.int .i64 g3) := (hcwT _ _ (by first | omega | (simp; done) | (simp; omega))).trans (by first | assumption | (go_simp; done)); have fwT4 : wT.cell? ⟨w3.heap.size, 4, none⟩ = some (.int .i64 g1) := (hcwT _ _ (by first | omega | (simp; done) | (simp; omega))).trans (by first | assumption | (go_simp; done)); have fwT5 : wT.cell? ⟨w3.heap.size, 5, none⟩ = some (.int .i64 g5) := (hcwT _ _ (by first | omega | (simp; done) | (simp; omega))).trans (by first | assumption | (go_simp; done)); have fwT6 : wT.cell? ⟨w3.heap.size, 6, none⟩ = some (.int .i64 g6) := (hcwT _ _ (by first | omega | (simp; done) | (simp; omega))).trans (by first | assumption | (go_simp; done)); have fwT7 : wT.cell? ⟨w3.heap.size, 7, none⟩ = some (.int .i64 g7) := (hcwT _ _ (by first | omega | (simp; done) | (simp; omega))).trans (by first | assumption | (go_simp; done)); have fwT8 : wT.cell? ⟨w3.heap.size, 8, none⟩ = some (.int .i64 g2) := (hcwT _ _ (by first | omega | (simp; done) | (simp; omega))).trans (by first | assumption | (go_simp; done)); have fwT9 : wT.cell? ⟨w3.heap.size, 9, none⟩ = some (.int .i64 g6) := (hcwT _ _ (by first | omega | (simp; done) | (simp; omega))).trans (by first | assumption | (go_simp; done)); have fwT10 : wT.cell? ⟨w3.heap.size, 10, none⟩ = some (.int .i64 g10) := (hcwT _ _ (by first | omega | (simp; done) | (simp; omega))).trans (by first | assumption | (go_simp; done)); have fwT11 : wT.cell? ⟨w3.heap.size, 11, none⟩ = some (.int .i64 g11) := (hcwT _ _ (by first | omega | (simp; done) | (simp; omega))).trans (by first | assumption | (go_simp; done)); have fwT12 : wT.cell? ⟨w3.heap.size, 12, none⟩ = some (.int .i64 g3) := (hcwT _ _ (by first | omega | (simp; done) | (simp; omega))).trans (by first | assumption | (go_simp; done)); have fwT13 : wT.cell? ⟨w3.heap.size, 13, none⟩ = some (.int .i64 g7) := (hcwT _ _ (by first | omega | (simp; done) | (simp; omega))).trans (by first | assumption | (go_simp; done)); have fwT14 : wT.cell? ⟨w3.heap.size, 14, none⟩ = some (.int .i64 g11) := (hcwT _ _ (by first | omega | (simp; done) | (simp; omega))).trans (by first | assumption | (go_simp; done)); have fwT15 : wT.cell? ⟨w3.heap.size, 15, none⟩ = some (.int .i64 g15) := (hcwT _ _ (by first | omega | (simp; done) | (simp; omega))).trans (by first | assumption | (go_simp; done)); have fwT16 : wT.cell? ⟨w3.heap.size + 1, 0, none⟩ = some (.int .i64 q.p00) := (hcwT _ _ (by first | omega | (simp; done) | (simp; omega))).trans (by first | assumption | (go_simp; done)); have fwT17 : wT.cell? ⟨w3.heap.size + 1, 1, none⟩ = some (.int .i64 q.p01) := (hcwT _ _ (by first | omega | (simp; done) | (simp; omega))).trans (by first | assumption | (go_simp; done)); have fwT18 : wT.cell? ⟨w3.heap.size + 1, 2, none⟩ = some (.int .i64 q.p02) := (hcwT _ _ (by first | omega | (simp; done) | (simp; omega))).trans (by first | assumption | (go_simp; done)); have fwT19 : wT.cell? ⟨w3.heap.size + 1, 3, none⟩ = some (.int .i64 q.p10) := (hcwT _ _ (by first | omega | (simp; done) | (simp; omega))).trans (by first | assumption | (go_simp; done)); have fwT20 : wT.cell? ⟨w3.heap.size + 1, 4, none⟩ = some (.int .i64 q.p11) := (hcwT _ _ (by first | omega | (simp; done) | (simp; omega))).trans (by first | assumption | (go_simp; done)); have fwT21 : wT.cell? ⟨w3.heap.size + 1, 5, none⟩ = some (.int .i64 q.p12) := (hcwT _ _ (by first | omega | (simp; done) | (simp; omega))).trans (by first | assumption | (go_simp; done)); have fwT22 : wT.cell? ⟨w3.heap.size + 1, 6, none⟩ = some (.int .i64 q.p20) := (hcwT _ _ (by first | omega | (simp; done) | (simp; omega))).trans (by first | assumption | (go_simp; done)); have fwT23 : wT.cell? ⟨w3.heap.size + 1, 7, none⟩ = some (.int .i64 q.p21) := (hcwT _ _ (by first | omega | (simp; done) | (simp; omega))).trans (by first | assumption | (go_simp; done)); have fwT24 : wT.cell? ⟨w3.heap.size + 1, 8, none⟩ = some (.int .i64 q.p22) := (hcwT _ _ (by first | omega | (simp; done) | (simp; omega))).trans (by first | assumption | (go_simp; done))))
  all_goals simp only [Exit.then]
  all_goals go_wp2
  all_goals refine bodyPost_ret (v := .tuple #[.agg #[.int .i64 mn.aa, .int .i64 mn.bb, .int .i64 mn.cc, .int .i64 mn.bc, .int .i64 mn.ac, .int .i64 mn.ab], .agg #[.int .i64 q.p00, .int .i64 q.p01, .int .i64 q.p02, .int .i64 q.p10, .int .i64 q.p11, .int .i64 q.p12, .int .i64 q.p20, .int .i64 q.p21, .int .i64 q.p22], .bool bo, .int .i64 0]) (by simp [results, Try.results11, go_sem, wrap_add_l, wrap_add_r, wrap_sub_l, wrap_sub_r, wrap_mul_l, wrap_mul_r, wrap_neg, wrap_wrap, wrap3, *]) rfl ⟨(by rw [EN.out, EQ.out, EBO.out]), ?_⟩
  all_goals (repeat (first | exact Below.refl _ _ | assumption | exact Below.alloc (Below.refl _ _) (Nat.le_refl _) _ | refine Below.setCell ?_ (by first | (simp; done) | (simp; omega) | omega) _ | refine below_drewN ?_ _ | refine Below.alloc ?_ (by first | (simp; done) | (simp; omega) | omega) _ | refine Below.trans ?_ (Below.mono (by assumption) (by first | (simp; done) | (simp; omega) | omega))))

theorem DocStep_all (m : Met) (w : World) : Calls Try.prog 11 #[.agg #[.int .i64 m.aa, .int .i64 m.bb, .int .i64 m.cc, .int .i64 m.bc, .int .i64 m.ac, .int .i64 m.ab]] w fun e w' => e = .returned (resS m) ∧ Below w.heap.size w w' := by
  unfold resS
  by_cases hC : chk m = 0
  · rw [if_pos hC]
    exact DocStep_ok m w hC
  · rw [if_neg hC]
    exact DocStep_bad m _ w rfl hC
end Go.Proofs.Ytdhlkhockpblhaa
