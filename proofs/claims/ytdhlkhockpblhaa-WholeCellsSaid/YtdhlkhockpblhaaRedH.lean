/-
  Check: is it a metric?
-/
import Derived.Test.YtdhlkhockpblhaaRedD
namespace Go.Proofs.Ytdhlkhockpblhaa
open Go.RowKit
attribute [local irreducible] World.setCell

set_option linter.unusedSimpArgs false
set_option linter.unusedVariables false

def detP (aa bb cc bc ac ab : Int) : Int := aa * bb * cc + 2 * bc * ac * ab - aa * bc * bc - bb * ac * ac - cc * ab * ab
def checkC (aa bb cc bc ac ab : Int) : Int :=
  if ((1 ≤ aa ∧ aa ≤ 100000) ∧ (1 ≤ bb ∧ bb ≤ 100000) ∧ (1 ≤ cc ∧ cc ≤ 100000)) ∧ (-100000 ≤ bc ∧ bc ≤ 100000) ∧ (-100000 ≤ ac ∧ ac ≤ 100000) ∧ (-100000 ≤ ab ∧ ab ≤ 100000) then
    (if aa * bb - ab * ab ≤ 0 ∨ wrap64 (detP aa bb cc bc ac ab) ≤ 0 then 3 else 0) else 1
theorem checkC_1 {aa bb cc bc ac ab : Int} (h : (aa < 1 ∨ 100000 < aa) ∨ (bb < 1 ∨ 100000 < bb) ∨ (cc < 1 ∨ 100000 < cc) ∨ (bc < -100000 ∨ 100000 < bc) ∨ (ac < -100000 ∨ 100000 < ac) ∨ (ab < -100000 ∨ 100000 < ab)) : 1 = checkC aa bb cc bc ac ab := (if_neg (by omega)).symm
theorem checkC_3 {aa bb cc bc ac ab : Int} (h : ((1 ≤ aa ∧ aa ≤ 100000) ∧ (1 ≤ bb ∧ bb ≤ 100000) ∧ (1 ≤ cc ∧ cc ≤ 100000)) ∧ (-100000 ≤ bc ∧ bc ≤ 100000) ∧ (-100000 ≤ ac ∧ ac ≤ 100000) ∧ (-100000 ≤ ab ∧ ab ≤ 100000)) (h2 : aa * bb - ab * ab ≤ 0 ∨ wrap64 (detP aa bb cc bc ac ab) ≤ 0) : 3 = checkC aa bb cc bc ac ab := by
  rw [checkC, if_pos h, if_pos h2]
theorem checkC_0 {aa bb cc bc ac ab : Int} (h : ((1 ≤ aa ∧ aa ≤ 100000) ∧ (1 ≤ bb ∧ bb ≤ 100000) ∧ (1 ≤ cc ∧ cc ≤ 100000)) ∧ (-100000 ≤ bc ∧ bc ≤ 100000) ∧ (-100000 ≤ ac ∧ ac ≤ 100000) ∧ (-100000 ≤ ab ∧ ab ≤ 100000)) (h2 : 0 < aa * bb - ab * ab) (h3 : 0 < wrap64 (detP aa bb cc bc ac ab)) : 0 = checkC aa bb cc bc ac ab := by
  rw [checkC, if_pos h, if_neg (by omega)]
theorem mul_b5 {x y : Int} (h1 : -100000 ≤ x) (h2 : x ≤ 100000) (h3 : -100000 ≤ y) (h4 : y ≤ 100000) : -10000000000 ≤ x * y ∧ x * y ≤ 10000000000 := by
  have h : (x * y).natAbs ≤ 100000 * 100000 := by rw [Int.natAbs_mul]; exact Nat.mul_le_mul (by omega) (by omega)
  omega

@[go_sem] theorem idxm0 (a b c : Int) (w : World) : (Instr.index 24 (.agg #[.int .i64 a, .int .i64 b, .int .i64 c]) (.int .i64 0)).run Try.prog w = .ok (.int .i64 a) w := by kernel_rfl
@[go_sem] theorem idxm1 (a b c : Int) (w : World) : (Instr.index 24 (.agg #[.int .i64 a, .int .i64 b, .int .i64 c]) (.int .i64 1)).run Try.prog w = .ok (.int .i64 b) w := by kernel_rfl
@[go_sem] theorem idxm2 (a b c : Int) (w : World) : (Instr.index 24 (.agg #[.int .i64 a, .int .i64 b, .int .i64 c]) (.int .i64 2)).run Try.prog w = .ok (.int .i64 c) w := by kernel_rfl
theorem cdet' (aa bb cc bc ac ab : Int) (w : World) : Calls Try.prog 51 #[.agg #[.int .i64 aa, .int .i64 bb, .int .i64 cc, .int .i64 bc, .int .i64 ac, .int .i64 ab]] w fun e w' => e = .returned (.int .i64 (wrap64 (detP aa bb cc bc ac ab))) ∧ Below w.heap.size w w' := cdet_any aa bb cc bc ac ab w
set_option maxHeartbeats 1600000 in
theorem check_any (aa bb cc bc ac ab : Int) (w : World) :
    Calls Try.prog 17 #[.agg #[.int .i64 aa, .int .i64 bb, .int .i64 cc, .int .i64 bc, .int .i64 ac, .int .i64 ab]] w fun e w' => e = .returned (.int .i64 (checkC aa bb cc bc ac ab)) ∧ Below w.heap.size w w' := by
  go_enter Try.func17, Try.ntmps17
  go_wp2
  refine wp_loop_rounds 4 ?_
  rw [rounds_succ]
  rcases Int.lt_or_le aa (1) with a0 | a0
  · go_wp2
    go_ret
    refine ⟨ret_int (checkC_1 (by omega)), ?_⟩
    repeat (first | exact Below.refl _ _ | assumption | exact Below.alloc (Below.refl _ _) (Nat.le_refl _) _ | refine Below.setCell ?_ (by first | (simp; done) | (simp; omega) | omega) _ | refine below_drewN ?_ _ | refine Below.alloc ?_ (by first | (simp; done) | (simp; omega) | omega) _ | refine Below.trans ?_ (Below.mono (by assumption) (by first | (simp; done) | (simp; omega) | omega)))
  rcases Int.lt_or_le 100000 aa with b0 | b0
  · go_wp2
    go_ret
    refine ⟨ret_int (checkC_1 (by omega)), ?_⟩
    repeat (first | exact Below.refl _ _ | assumption | exact Below.alloc (Below.refl _ _) (Nat.le_refl _) _ | refine Below.setCell ?_ (by first | (simp; done) | (simp; omega) | omega) _ | refine below_drewN ?_ _ | refine Below.alloc ?_ (by first | (simp; done) | (simp; omega) | omega) _ | refine Below.trans ?_ (Below.mono (by assumption) (by first | (simp; done) | (simp; omega) | omega)))
  go_wp2
  rw [rounds_succ]
  rcases Int.lt_or_le bb (1) with a1 | a1
  · go_wp2
    go_ret
    refine ⟨ret_int (checkC_1 (by omega)), ?_⟩
    repeat (first | exact Below.refl _ _ | assumption | exact Below.alloc (Below.refl _ _) (Nat.le_refl _) _ | refine Below.setCell ?_ (by first | (simp; done) | (simp; omega) | omega) _ | refine below_drewN ?_ _ | refine Below.alloc ?_ (by first | (simp; done) | (simp; omega) | omega) _ | refine Below.trans ?_ (Below.mono (by assumption) (by first | (simp; done) | (simp; omega) | omega)))
  rcases Int.lt_or_le 100000 bb with b1 | b1
  · go_wp2
    go_ret
    refine ⟨ret_int (checkC_1 (by omega)), ?_⟩
    repeat (first | exact Below.refl _ _ | assumption | exact Below.alloc (Below.refl _ _) (Nat.le_refl _) _ | refine Below.setCell ?_ (by first | (simp; done) | (simp; omega) | omega) _ | refine below_drewN ?_ _ | refine Below.alloc ?_ (by first | (simp; done) | (simp; omega) | omega) _ | refine Below.trans ?_ (Below.mono (by assumption) (by first | (simp; done) | (simp; omega) | omega)))
  go_wp2
  rw [rounds_succ]
  rcases Int.lt_or_le cc (1) with a2 | a2
  · go_wp2
    go_ret
    refine ⟨ret_int (checkC_1 (by omega)), ?_⟩
    repeat (first | exact Below.refl _ _ | assumption | exact Below.alloc (Below.refl _ _) (Nat.le_refl _) _ | refine Below.setCell ?_ (by first | (simp; done) | (simp; omega) | omega) _ | refine below_drewN ?_ _ | refine Below.alloc ?_ (by first | (simp; done) | (simp; omega) | omega) _ | refine Below.trans ?_ (Below.mono (by assumption) (by first | (simp; done) | (simp; omega) | omega)))
  rcases Int.lt_or_le 100000 cc with b2 | b2
  · go_wp2
    go_ret
    refine ⟨ret_int (checkC_1 (by omega)), ?_⟩
    repeat (first | exact Below.refl _ _ | assumption | exact Below.alloc (Below.refl _ _) (Nat.le_refl _) _ | refine Below.setCell ?_ (by first | (simp; done) | (simp; omega) | omega) _ | refine below_drewN ?_ _ | refine Below.alloc ?_ (by first | (simp; done) | (simp; omega) | omega) _ | refine Below.trans ?_ (Below.mono (by assumption) (by first | (simp; done) | (simp; omega) | omega)))
  go_wp2
  rw [rounds_succ]
  go_wp2
  refine wp_loop_rounds 4 ?_
  rw [rounds_succ]
  rcases Int.lt_or_le bc (-100000) with a3 | a3
  · go_wp2
    go_ret
    refine ⟨ret_int (checkC_1 (by omega)), ?_⟩
    repeat (first | exact Below.refl _ _ | assumption | exact Below.alloc (Below.refl _ _) (Nat.le_refl _) _ | refine Below.setCell ?_ (by first | (simp; done) | (simp; omega) | omega) _ | refine below_drewN ?_ _ | refine Below.alloc ?_ (by first | (simp; done) | (simp; omega) | omega) _ | refine Below.trans ?_ (Below.mono (by assumption) (by first | (simp; done) | (simp; omega) | omega)))
  rcases Int.lt_or_le 100000 bc with b3 | b3
  · go_wp2
    go_ret
    refine ⟨ret_int (checkC_1 (by omega)), ?_⟩
    repeat (first | exact Below.refl _ _ | assumption | exact Below.alloc (Below.refl _ _) (Nat.le_refl _) _ | refine Below.setCell ?_ (by first | (simp; done) | (simp; omega) | omega) _ | refine below_drewN ?_ _ | refine Below.alloc ?_ (by first | (simp; done) | (simp; omega) | omega) _ | refine Below.trans ?_ (Below.mono (by assumption) (by first | (simp; done) | (simp; omega) | omega)))
  go_wp2
  rw [rounds_succ]
  rcases Int.lt_or_le ac (-100000) with a4 | a4
  · go_wp2
    go_ret
    refine ⟨ret_int (checkC_1 (by omega)), ?_⟩
    repeat (first | exact Below.refl _ _ | assumption | exact Below.alloc (Below.refl _ _) (Nat.le_refl _) _ | refine Below.setCell ?_ (by first | (simp; done) | (simp; omega) | omega) _ | refine below_drewN ?_ _ | refine Below.alloc ?_ (by first | (simp; done) | (simp; omega) | omega) _ | refine Below.trans ?_ (Below.mono (by assumption) (by first | (simp; done) | (simp; omega) | omega)))
  rcases Int.lt_or_le 100000 ac with b4 | b4
  · go_wp2
    go_ret
    refine ⟨ret_int (checkC_1 (by omega)), ?_⟩
    repeat (first | exact Below.refl _ _ | assumption | exact Below.alloc (Below.refl _ _) (Nat.le_refl _) _ | refine Below.setCell ?_ (by first | (simp; done) | (simp; omega) | omega) _ | refine below_drewN ?_ _ | refine Below.alloc ?_ (by first | (simp; done) | (simp; omega) | omega) _ | refine Below.trans ?_ (Below.mono (by assumption) (by first | (simp; done) | (simp; omega) | omega)))
  go_wp2
  rw [rounds_succ]
  rcases Int.lt_or_le ab (-100000) with a5 | a5
  · go_wp2
    go_ret
    refine ⟨ret_int (checkC_1 (by omega)), ?_⟩
    repeat (first | exact Below.refl _ _ | assumption | exact Below.alloc (Below.refl _ _) (Nat.le_refl _) _ | refine Below.setCell ?_ (by first | (simp; done) | (simp; omega) | omega) _ | refine below_drewN ?_ _ | refine Below.alloc ?_ (by first | (simp; done) | (simp; omega) | omega) _ | refine Below.trans ?_ (Below.mono (by assumption) (by first | (simp; done) | (simp; omega) | omega)))
  rcases Int.lt_or_le 100000 ab with b5 | b5
  · go_wp2
    go_ret
    refine ⟨ret_int (checkC_1 (by omega)), ?_⟩
    repeat (first | exact Below.refl _ _ | assumption | exact Below.alloc (Below.refl _ _) (Nat.le_refl _) _ | refine Below.setCell ?_ (by first | (simp; done) | (simp; omega) | omega) _ | refine below_drewN ?_ _ | refine Below.alloc ?_ (by first | (simp; done) | (simp; omega) | omega) _ | refine Below.trans ?_ (Below.mono (by assumption) (by first | (simp; done) | (simp; omega) | omega)))
  go_wp2
  rw [rounds_succ]
  have m1 := mul_b5 (x := aa) (y := bb) (by omega) (by omega) (by omega) (by omega)
  have m2 := mul_b5 (x := ab) (y := ab) (by omega) (by omega) (by omega) (by omega)
  rcases Int.lt_or_le 0 (aa * bb - ab * ab) with c | c
  · rcases Int.lt_or_le 0 (wrap64 (detP aa bb cc bc ac ab)) with d | d
    · go_wp2_with (go_at_call 51; refine (cdet' _ _ _ _ _ _ _).mono ?_; rintro e w' ⟨rfl, hb⟩; obtain ⟨hc, hf⟩ := bcell hb; have hz := hb.size; (try simp at hz); try have z0 : w.heap.size < w'.heap.size := (by omega))
      go_ret
      refine ⟨ret_int (checkC_0 (by omega) (by omega) (by omega)), ?_⟩
      repeat (first | exact Below.refl _ _ | assumption | exact Below.alloc (Below.refl _ _) (Nat.le_refl _) _ | refine Below.setCell ?_ (by first | (simp; done) | (simp; omega) | omega) _ | refine below_drewN ?_ _ | refine Below.alloc ?_ (by first | (simp; done) | (simp; omega) | omega) _ | refine Below.trans ?_ (Below.mono (by assumption) (by first | (simp; done) | (simp; omega) | omega)))
    · go_wp2_with (go_at_call 51; refine (cdet' _ _ _ _ _ _ _).mono ?_; rintro e w' ⟨rfl, hb⟩; obtain ⟨hc, hf⟩ := bcell hb; have hz := hb.size; (try simp at hz); try have z0 : w.heap.size < w'.heap.size := (by omega))
      go_ret
      refine ⟨ret_int (checkC_3 (by omega) (by omega)), ?_⟩
      repeat (first | exact Below.refl _ _ | assumption | exact Below.alloc (Below.refl _ _) (Nat.le_refl _) _ | refine Below.setCell ?_ (by first | (simp; done) | (simp; omega) | omega) _ | refine below_drewN ?_ _ | refine Below.alloc ?_ (by first | (simp; done) | (simp; omega) | omega) _ | refine Below.trans ?_ (Below.mono (by assumption) (by first | (simp; done) | (simp; omega) | omega)))
  · go_wp2
    go_ret
    refine ⟨ret_int (checkC_3 (by omega) (by omega)), ?_⟩
    repeat (first | exact Below.refl _ _ | assumption | exact Below.alloc (Below.refl _ _) (Nat.le_refl _) _ | refine Below.setCell ?_ (by first | (simp; done) | (simp; omega) | omega) _ | refine below_drewN ?_ _ | refine Below.alloc ?_ (by first | (simp; done) | (simp; omega) | omega) _ | refine Below.trans ?_ (Below.mono (by assumption) (by first | (simp; done) | (simp; omega) | omega)))

@[go_sem] theorem mod3_1 : Int.tmod 1 3 = 1 := by rfl
set_option maxHeartbeats 400000 in
theorem rmat_any (aa bb cc bc ac ab : Int) (w : World) :
    Calls Try.prog 80 #[.agg #[.int .i64 aa, .int .i64 bb, .int .i64 cc, .int .i64 bc, .int .i64 ac, .int .i64 ab]] w fun e w' => e = .returned (.agg #[.int .i64 aa, .int .i64 ab, .int .i64 ac, .int .i64 ab, .int .i64 bb, .int .i64 bc, .int .i64 ac, .int .i64 bc, .int .i64 cc]) ∧ Below w.heap.size w w' := by
  go_enter Try.func80, Try.ntmps80
  go_wp2
  refine bodyPost_ret (v := .agg #[.int .i64 aa, .int .i64 ab, .int .i64 ac, .int .i64 ab, .int .i64 bb, .int .i64 bc, .int .i64 ac, .int .i64 bc, .int .i64 cc]) (by simp [results, Try.results80, go_sem, wrap_add_l, wrap_add_r, wrap_sub_l, wrap_sub_r, wrap_mul_l, wrap_mul_r, wrap_neg, wrap_wrap, wrap3, *]) rfl ⟨rfl, ?_⟩
  repeat (first | exact Below.refl _ _ | assumption | exact Below.alloc (Below.refl _ _) (Nat.le_refl _) _ | refine Below.setCell ?_ (by first | (simp; done) | (simp; omega) | omega) _ | refine below_drewN ?_ _ | refine Below.alloc ?_ (by first | (simp; done) | (simp; omega) | omega) _ | refine Below.trans ?_ (Below.mono (by assumption) (by first | (simp; done) | (simp; omega) | omega)))

set_option maxHeartbeats 800000 in
theorem minor_0 (g00 g01 g02 g10 g11 g12 g20 g21 g22 : Int) (w : World) :
    Calls Try.prog 81 #[.agg #[.int .i64 g00, .int .i64 g01, .int .i64 g02, .int .i64 g10, .int .i64 g11, .int .i64 g12, .int .i64 g20, .int .i64 g21, .int .i64 g22], .int .i64 0, .int .i64 0] w fun e w' => e = .returned (.int .i64 (wrap64 (g11 * g22 - g12 * g21))) ∧ Below w.heap.size w w' := by
  go_enter Try.func81, Try.ntmps81
  go_wp2
  go_quiet (fail)
  go_wp2
  go_ret
  refine ⟨ret_int ?_, ?_⟩
  · simp only [wrap_add_l, wrap_add_r, wrap_sub_l, wrap_sub_r, wrap_mul_l, wrap_mul_r, wrap_neg, wrap_wrap, Int.zero_add]
  · repeat (first | exact Below.refl _ _ | assumption | exact Below.alloc (Below.refl _ _) (Nat.le_refl _) _ | refine Below.setCell ?_ (by first | (simp; done) | (simp; omega) | omega) _ | refine below_drewN ?_ _ | refine Below.alloc ?_ (by first | (simp; done) | (simp; omega) | omega) _ | refine Below.trans ?_ (Below.mono (by assumption) (by first | (simp; done) | (simp; omega) | omega)))

set_option maxHeartbeats 800000 in
theorem minor_1 (g00 g01 g02 g10 g11 g12 g20 g21 g22 : Int) (w : World) :
    Calls Try.prog 81 #[.agg #[.int .i64 g00, .int .i64 g01, .int .i64 g02, .int .i64 g10, .int .i64 g11, .int .i64 g12, .int .i64 g20, .int .i64 g21, .int .i64 g22], .int .i64 0, .int .i64 1] w fun e w' => e = .returned (.int .i64 (wrap64 (g12 * g20 - g10 * g22))) ∧ Below w.heap.size w w' := by
  go_enter Try.func81, Try.ntmps81
  go_wp2
  go_quiet (fail)
  go_wp2
  go_ret
  refine ⟨ret_int ?_, ?_⟩
  · simp only [wrap_add_l, wrap_add_r, wrap_sub_l, wrap_sub_r, wrap_mul_l, wrap_mul_r, wrap_neg, wrap_wrap, Int.zero_add]
  · repeat (first | exact Below.refl _ _ | assumption | exact Below.alloc (Below.refl _ _) (Nat.le_refl _) _ | refine Below.setCell ?_ (by first | (simp; done) | (simp; omega) | omega) _ | refine below_drewN ?_ _ | refine Below.alloc ?_ (by first | (simp; done) | (simp; omega) | omega) _ | refine Below.trans ?_ (Below.mono (by assumption) (by first | (simp; done) | (simp; omega) | omega)))

set_option maxHeartbeats 800000 in
theorem minor_2 (g00 g01 g02 g10 g11 g12 g20 g21 g22 : Int) (w : World) :
    Calls Try.prog 81 #[.agg #[.int .i64 g00, .int .i64 g01, .int .i64 g02, .int .i64 g10, .int .i64 g11, .int .i64 g12, .int .i64 g20, .int .i64 g21, .int .i64 g22], .int .i64 0, .int .i64 2] w fun e w' => e = .returned (.int .i64 (wrap64 (g10 * g21 - g11 * g20))) ∧ Below w.heap.size w w' := by
  go_enter Try.func81, Try.ntmps81
  go_wp2
  go_quiet (fail)
  go_wp2
  go_ret
  refine ⟨ret_int ?_, ?_⟩
  · simp only [wrap_add_l, wrap_add_r, wrap_sub_l, wrap_sub_r, wrap_mul_l, wrap_mul_r, wrap_neg, wrap_wrap, Int.zero_add]
  · repeat (first | exact Below.refl _ _ | assumption | exact Below.alloc (Below.refl _ _) (Nat.le_refl _) _ | refine Below.setCell ?_ (by first | (simp; done) | (simp; omega) | omega) _ | refine below_drewN ?_ _ | refine Below.alloc ?_ (by first | (simp; done) | (simp; omega) | omega) _ | refine Below.trans ?_ (Below.mono (by assumption) (by first | (simp; done) | (simp; omega) | omega)))

theorem det_same (aa bb cc bc ac ab : Int) : wrap64 (wrap64 (wrap64 (aa * wrap64 (bb * cc - bc * bc)) + wrap64 (ab * wrap64 (bc * ac - ab * cc))) + wrap64 (ac * wrap64 (ab * bc - bb * ac))) = wrap64 (detP aa bb cc bc ac ab) := by
  simp only [wrap_add_l, wrap_add_r, wrap_mul_r]
  congr 1; unfold detP; grind
set_option maxHeartbeats 1600000 in
theorem rdet_any (aa bb cc bc ac ab : Int) (w : World) :
    Calls Try.prog 73 #[.agg #[.int .i64 aa, .int .i64 bb, .int .i64 cc, .int .i64 bc, .int .i64 ac, .int .i64 ab]] w fun e w' => e = .returned (.int .i64 (wrap64 (detP aa bb cc bc ac ab))) ∧ Below w.heap.size w w' := by
  go_enter Try.func73, Try.ntmps73
  go_wp2_with fail
  refine (rmat_any _ _ _ _ _ _ _).mono ?_
  rintro e w1 ⟨rfl, hb1⟩
  obtain ⟨hc1, hf1⟩ := bcell hb1
  have hz1 := hb1.size
  try simp at hz1
  have z1_0 : w.heap.size < w1.heap.size := by omega
  go_wp2
  refine wp_loop_rounds 4 ?_
  rw [rounds_succ]
  go_wp2
  have zzx0_0 : w.heap.size < w1.heap.size + 1 := by omega
  have zzx0_1 : w1.heap.size < w1.heap.size + 1 := by omega
  refine region_all (by kernel_rfl) (by kernel_rfl) ?_
  repeat (go_big_quiet_step ((go_at_call 81; exact held_of _ (Nat.le_refl _) (minor_0 _ _ _ _ _ _ _ _ _ _))))
  refine wpQuiet_nil ?_
  rintro x0 ⟨⟨w0, hbx0⟩, rfl⟩
  obtain ⟨hcx0, hfx0⟩ := bcell hbx0
  have hzx0 := hbx0.size
  try simp at hzx0
  have zx0_0 : w.heap.size < x0.heap.size := by omega
  have zx0_1 : w1.heap.size < x0.heap.size := by omega
  go_wp2
  rw [rounds_succ]
  go_wp2
  refine region_all (by kernel_rfl) (by kernel_rfl) ?_
  repeat (go_big_quiet_step ((go_at_call 81; exact held_of _ (Nat.le_refl _) (minor_1 _ _ _ _ _ _ _ _ _ _))))
  refine wpQuiet_nil ?_
  rintro x1 ⟨⟨w0, hbx1⟩, rfl⟩
  obtain ⟨hcx1, hfx1⟩ := bcell hbx1
  have hzx1 := hbx1.size
  try simp at hzx1
  have zx1_0 : w.heap.size < x1.heap.size := by omega
  have zx1_1 : w1.heap.size < x1.heap.size := by omega
  go_wp2
  rw [rounds_succ]
  go_wp2
  refine region_all (by kernel_rfl) (by kernel_rfl) ?_
  repeat (go_big_quiet_step ((go_at_call 81; exact held_of _ (Nat.le_refl _) (minor_2 _ _ _ _ _ _ _ _ _ _))))
  refine wpQuiet_nil ?_
  rintro x2 ⟨⟨w0, hbx2⟩, rfl⟩
  obtain ⟨hcx2, hfx2⟩ := bcell hbx2
  have hzx2 := hbx2.size
  try simp at hzx2
  have zx2_0 : w.heap.size < x2.heap.size := by omega
  have zx2_1 : w1.heap.size < x2.heap.size := by omega
  go_wp2
  rw [rounds_succ]
  go_wp2
  go_ret
  refine ⟨ret_int ?_, ?_⟩
  · simp only [Int.zero_add, wrap_wrap]; exact det_same aa bb cc bc ac ab
  · repeat (first | exact Below.refl _ _ | assumption | exact Below.alloc (Below.refl _ _) (Nat.le_refl _) _ | refine Below.setCell ?_ (by first | (simp; done) | (simp; omega) | omega) _ | refine below_drewN ?_ _ | refine Below.alloc ?_ (by first | (simp; done) | (simp; omega) | omega) _ | refine Below.trans ?_ (Below.mono (by assumption) (by first | (simp; done) | (simp; omega) | omega)))

set_option maxHeartbeats 1600000 in
theorem dcheck_any (aa bb cc bc ac ab : Int) (w : World) :
    Calls Try.prog 40 #[.agg #[.int .i64 aa, .int .i64 bb, .int .i64 cc, .int .i64 bc, .int .i64 ac, .int .i64 ab]] w fun e w' => e = .returned (.int .i64 (checkC aa bb cc bc ac ab)) ∧ Below w.heap.size w w' := by
  go_enter Try.func40, Try.ntmps40
  go_wp2
  refine wp_loop_rounds 4 ?_
  rw [rounds_succ]
  rcases Int.lt_or_le aa (1) with a0 | a0
  · go_wp2
    go_ret
    refine ⟨ret_int (checkC_1 (by omega)), ?_⟩
    repeat (first | exact Below.refl _ _ | assumption | exact Below.alloc (Below.refl _ _) (Nat.le_refl _) _ | refine Below.setCell ?_ (by first | (simp; done) | (simp; omega) | omega) _ | refine below_drewN ?_ _ | refine Below.alloc ?_ (by first | (simp; done) | (simp; omega) | omega) _ | refine Below.trans ?_ (Below.mono (by assumption) (by first | (simp; done) | (simp; omega) | omega)))
  rcases Int.lt_or_le 100000 aa with b0 | b0
  · go_wp2
    go_ret
    refine ⟨ret_int (checkC_1 (by omega)), ?_⟩
    repeat (first | exact Below.refl _ _ | assumption | exact Below.alloc (Below.refl _ _) (Nat.le_refl _) _ | refine Below.setCell ?_ (by first | (simp; done) | (simp; omega) | omega) _ | refine below_drewN ?_ _ | refine Below.alloc ?_ (by first | (simp; done) | (simp; omega) | omega) _ | refine Below.trans ?_ (Below.mono (by assumption) (by first | (simp; done) | (simp; omega) | omega)))
  go_wp2
  rw [rounds_succ]
  rcases Int.lt_or_le bb (1) with a1 | a1
  · go_wp2
    go_ret
    refine ⟨ret_int (checkC_1 (by omega)), ?_⟩
    repeat (first | exact Below.refl _ _ | assumption | exact Below.alloc (Below.refl _ _) (Nat.le_refl _) _ | refine Below.setCell ?_ (by first | (simp; done) | (simp; omega) | omega) _ | refine below_drewN ?_ _ | refine Below.alloc ?_ (by first | (simp; done) | (simp; omega) | omega) _ | refine Below.trans ?_ (Below.mono (by assumption) (by first | (simp; done) | (simp; omega) | omega)))
  rcases Int.lt_or_le 100000 bb with b1 | b1
  · go_wp2
    go_ret
    refine ⟨ret_int (checkC_1 (by omega)), ?_⟩
    repeat (first | exact Below.refl _ _ | assumption | exact Below.alloc (Below.refl _ _) (Nat.le_refl _) _ | refine Below.setCell ?_ (by first | (simp; done) | (simp; omega) | omega) _ | refine below_drewN ?_ _ | refine Below.alloc ?_ (by first | (simp; done) | (simp; omega) | omega) _ | refine Below.trans ?_ (Below.mono (by assumption) (by first | (simp; done) | (simp; omega) | omega)))
  go_wp2
  rw [rounds_succ]
  rcases Int.lt_or_le cc (1) with a2 | a2
  · go_wp2
    go_ret
    refine ⟨ret_int (checkC_1 (by omega)), ?_⟩
    repeat (first | exact Below.refl _ _ | assumption | exact Below.alloc (Below.refl _ _) (Nat.le_refl _) _ | refine Below.setCell ?_ (by first | (simp; done) | (simp; omega) | omega) _ | refine below_drewN ?_ _ | refine Below.alloc ?_ (by first | (simp; done) | (simp; omega) | omega) _ | refine Below.trans ?_ (Below.mono (by assumption) (by first | (simp; done) | (simp; omega) | omega)))
  rcases Int.lt_or_le 100000 cc with b2 | b2
  · go_wp2
    go_ret
    refine ⟨ret_int (checkC_1 (by omega)), ?_⟩
    repeat (first | exact Below.refl _ _ | assumption | exact Below.alloc (Below.refl _ _) (Nat.le_refl _) _ | refine Below.setCell ?_ (by first | (simp; done) | (simp; omega) | omega) _ | refine below_drewN ?_ _ | refine Below.alloc ?_ (by first | (simp; done) | (simp; omega) | omega) _ | refine Below.trans ?_ (Below.mono (by assumption) (by first | (simp; done) | (simp; omega) | omega)))
  go_wp2
  rw [rounds_succ]
  go_wp2
  refine wp_loop_rounds 4 ?_
  rw [rounds_succ]
  rcases Int.lt_or_le bc (-100000) with a3 | a3
  · go_wp2
    go_ret
    refine ⟨ret_int (checkC_1 (by omega)), ?_⟩
    repeat (first | exact Below.refl _ _ | assumption | exact Below.alloc (Below.refl _ _) (Nat.le_refl _) _ | refine Below.setCell ?_ (by first | (simp; done) | (simp; omega) | omega) _ | refine below_drewN ?_ _ | refine Below.alloc ?_ (by first | (simp; done) | (simp; omega) | omega) _ | refine Below.trans ?_ (Below.mono (by assumption) (by first | (simp; done) | (simp; omega) | omega)))
  rcases Int.lt_or_le 100000 bc with b3 | b3
  · go_wp2
    go_ret
    refine ⟨ret_int (checkC_1 (by omega)), ?_⟩
    repeat (first | exact Below.refl _ _ | assumption | exact Below.alloc (Below.refl _ _) (Nat.le_refl _) _ | refine Below.setCell ?_ (by first | (simp; done) | (simp; omega) | omega) _ | refine below_drewN ?_ _ | refine Below.alloc ?_ (by first | (simp; done) | (simp; omega) | omega) _ | refine Below.trans ?_ (Below.mono (by assumption) (by first | (simp; done) | (simp; omega) | omega)))
  go_wp2
  rw [rounds_succ]
  rcases Int.lt_or_le ac (-100000) with a4 | a4
  · go_wp2
    go_ret
    refine ⟨ret_int (checkC_1 (by omega)), ?_⟩
    repeat (first | exact Below.refl _ _ | assumption | exact Below.alloc (Below.refl _ _) (Nat.le_refl _) _ | refine Below.setCell ?_ (by first | (simp; done) | (simp; omega) | omega) _ | refine below_drewN ?_ _ | refine Below.alloc ?_ (by first | (simp; done) | (simp; omega) | omega) _ | refine Below.trans ?_ (Below.mono (by assumption) (by first | (simp; done) | (simp; omega) | omega)))
  rcases Int.lt_or_le 100000 ac with b4 | b4
  · go_wp2
    go_ret
    refine ⟨ret_int (checkC_1 (by omega)), ?_⟩
    repeat (first | exact Below.refl _ _ | assumption | exact Below.alloc (Below.refl _ _) (Nat.le_refl _) _ | refine Below.setCell ?_ (by first | (simp; done) | (simp; omega) | omega) _ | refine below_drewN ?_ _ | refine Below.alloc ?_ (by first | (simp; done) | (simp; omega) | omega) _ | refine Below.trans ?_ (Below.mono (by assumption) (by first | (simp; done) | (simp; omega) | omega)))
  go_wp2
  rw [rounds_succ]
  rcases Int.lt_or_le ab (-100000) with a5 | a5
  · go_wp2
    go_ret
    refine ⟨ret_int (checkC_1 (by omega)), ?_⟩
    repeat (first | exact Below.refl _ _ | assumption | exact Below.alloc (Below.refl _ _) (Nat.le_refl _) _ | refine Below.setCell ?_ (by first | (simp; done) | (simp; omega) | omega) _ | refine below_drewN ?_ _ | refine Below.alloc ?_ (by first | (simp; done) | (simp; omega) | omega) _ | refine Below.trans ?_ (Below.mono (by assumption) (by first | (simp; done) | (simp; omega) | omega)))
  rcases Int.lt_or_le 100000 ab with b5 | b5
  · go_wp2
    go_ret
    refine ⟨ret_int (checkC_1 (by omega)), ?_⟩
    repeat (first | exact Below.refl _ _ | assumption | exact Below.alloc (Below.refl _ _) (Nat.le_refl _) _ | refine Below.setCell ?_ (by first | (simp; done) | (simp; omega) | omega) _ | refine below_drewN ?_ _ | refine Below.alloc ?_ (by first | (simp; done) | (simp; omega) | omega) _ | refine Below.trans ?_ (Below.mono (by assumption) (by first | (simp; done) | (simp; omega) | omega)))
  go_wp2
  rw [rounds_succ]
  have m1 := mul_b5 (x := aa) (y := bb) (by omega) (by omega) (by omega) (by omega)
  have m2 := mul_b5 (x := ab) (y := ab) (by omega) (by omega) (by omega) (by omega)
  rcases Int.lt_or_le 0 (aa * bb - ab * ab) with c | c
  · rcases Int.lt_or_le 0 (wrap64 (detP aa bb cc bc ac ab)) with d | d
    · go_wp2_with (go_at_call 73; refine (rdet_any _ _ _ _ _ _ _).mono ?_; rintro e w' ⟨rfl, hb⟩; obtain ⟨hc, hf⟩ := bcell hb; have hz := hb.size; (try simp at hz); try have z0 : w.heap.size < w'.heap.size := (by omega); try have z1 : w.heap.size + 1 < w'.heap.size := (by omega); try have z2 : w.heap.size + 1 + 1 < w'.heap.size := (by omega))
      go_ret
      refine ⟨ret_int (checkC_0 (by omega) (by omega) (by omega)), ?_⟩
      repeat (first | exact Below.refl _ _ | assumption | exact Below.alloc (Below.refl _ _) (Nat.le_refl _) _ | refine Below.setCell ?_ (by first | (simp; done) | (simp; omega) | omega) _ | refine below_drewN ?_ _ | refine Below.alloc ?_ (by first | (simp; done) | (simp; omega) | omega) _ | refine Below.trans ?_ (Below.mono (by assumption) (by first | (simp; done) | (simp; omega) | omega)))
    · go_wp2_with (go_at_call 73; refine (rdet_any _ _ _ _ _ _ _).mono ?_; rintro e w' ⟨rfl, hb⟩; obtain ⟨hc, hf⟩ := bcell hb; have hz := hb.size; (try simp at hz); try have z0 : w.heap.size < w'.heap.size := (by omega); try have z1 : w.heap.size + 1 < w'.heap.size := (by omega); try have z2 : w.heap.size + 1 + 1 < w'.heap.size := (by omega))
      go_ret
      refine ⟨ret_int (checkC_3 (by omega) (by omega)), ?_⟩
      repeat (first | exact Below.refl _ _ | assumption | exact Below.alloc (Below.refl _ _) (Nat.le_refl _) _ | refine Below.setCell ?_ (by first | (simp; done) | (simp; omega) | omega) _ | refine below_drewN ?_ _ | refine Below.alloc ?_ (by first | (simp; done) | (simp; omega) | omega) _ | refine Below.trans ?_ (Below.mono (by assumption) (by first | (simp; done) | (simp; omega) | omega)))
  · go_wp2
    go_ret
    refine ⟨ret_int (checkC_3 (by omega) (by omega)), ?_⟩
    repeat (first | exact Below.refl _ _ | assumption | exact Below.alloc (Below.refl _ _) (Nat.le_refl _) _ | refine Below.setCell ?_ (by first | (simp; done) | (simp; omega) | omega) _ | refine below_drewN ?_ _ | refine Below.alloc ?_ (by first | (simp; done) | (simp; omega) | omega) _ | refine Below.trans ?_ (Below.mono (by assumption) (by first | (simp; done) | (simp; omega) | omega)))

end Go.Proofs.Ytdhlkhockpblhaa
