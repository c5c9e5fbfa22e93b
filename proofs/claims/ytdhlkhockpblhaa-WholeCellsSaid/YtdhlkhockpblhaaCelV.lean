/-
  basis: what undoes a change; indices and metrics behind it.
-/
import Derived.Test.YtdhlkhockpblhaaCelU
import Derived.Deep.RegionHeld3
import Derived.Deep.DeepCutAuto
namespace Go.Proofs.Ytdhlkhockpblhaa
open Go.RowKit
attribute [local irreducible] World.setCell

set_option linter.unusedSimpArgs false
set_option linter.unusedVariables false

/-- A walk's world forgotten but for what S says of it. -/
theorem wp_abs {P : Program} {c : Code} {Q : Exit → Act → World → Prop} {a : Act} {w : World} (S : World → Prop) (h : S w) (k : ∀ w', S w' → c.wp P Q a w') : c.wp P Q a w := k w h
/-- A world that keeps all that lay in Wc. -/
theorem sb_of {Wc w' : World} (h : Below Wc.heap.size Wc w') : Below Wc.heap.size Wc w' ∧ ∀ b o, b < Wc.heap.size → w'.cell? ⟨b, o, none⟩ = Wc.cell? ⟨b, o, none⟩ := ⟨h, fun b o hb => h.cell (p := ⟨b, o, none⟩) hb⟩
theorem sb_alloc {Wc w' : World} (h : Below Wc.heap.size Wc w') (o : Obj) : Below Wc.heap.size Wc (w'.alloc o) ∧ ∀ b o', b < Wc.heap.size → (w'.alloc o).cell? ⟨b, o', none⟩ = Wc.cell? ⟨b, o', none⟩ := sb_of (h.alloc h.size o)
theorem sb_set {Wc w' : World} (h : Below Wc.heap.size Wc w') (p : Addr) (v : Value) (hp : Wc.heap.size ≤ p.block) : Below Wc.heap.size Wc (w'.setCell p v) ∧ ∀ b o', b < Wc.heap.size → (w'.setCell p v).cell? ⟨b, o', none⟩ = Wc.cell? ⟨b, o', none⟩ := sb_of (h.setCell hp v)
theorem sb_call {Wc w' w'' : World} (h : Below Wc.heap.size Wc w') (hb : Below w'.heap.size w' w'') : Below Wc.heap.size Wc w'' ∧ ∀ b o, b < Wc.heap.size → w''.cell? ⟨b, o, none⟩ = Wc.cell? ⟨b, o, none⟩ := sb_of (h.trans (hb.mono h.size))

set_option maxHeartbeats 800000 in
theorem bcheck_any (p00 p01 p02 p10 p11 p12 p20 p21 p22 o0 o1 o2 q00 q01 q02 q10 q11 q12 q20 q21 q22 : Int) (w : World) (HI : ∀ w : World, Calls Try.prog 52 #[.agg #[.int .i64 p00, .int .i64 p01, .int .i64 p02, .int .i64 p10, .int .i64 p11, .int .i64 p12, .int .i64 p20, .int .i64 p21, .int .i64 p22]] w fun e w' => e = .returned (.tuple #[.agg #[.int .i64 q00, .int .i64 q01, .int .i64 q02, .int .i64 q10, .int .i64 q11, .int .i64 q12, .int .i64 q20, .int .i64 q21, .int .i64 q22], .int .i64 0]) ∧ Below w.heap.size w w'):
    Calls Try.prog 58 #[.agg #[.int .i64 p00, .int .i64 p01, .int .i64 p02, .int .i64 p10, .int .i64 p11, .int .i64 p12, .int .i64 p20, .int .i64 p21, .int .i64 p22, .int .i64 o0, .int .i64 o1, .int .i64 o2]] w fun e w' => e = .returned (.tuple #[.agg #[.int .i64 q00, .int .i64 q01, .int .i64 q02, .int .i64 q10, .int .i64 q11, .int .i64 q12, .int .i64 q20, .int .i64 q21, .int .i64 q22], .int .i64 0]) ∧ Below w.heap.size w w' := by
  have HH := Lib.hid HI; clear HI
  go_enter Try.func58, Try.ntmps58
  go_wp2_with fail
  refine (HH.out _).mono ?_
  rintro e w1 ⟨rfl, hb1⟩
  obtain ⟨hc1, hf1⟩ := bcell hb1
  have hz1 := hb1.size
  try simp at hz1
  have z1_0 : w.heap.size < w1.heap.size := by omega
  have z1_1 : w.heap.size + 1 < w1.heap.size := by omega
  go_wp2
  refine bodyPost_ret (v := .tuple #[.agg #[.int .i64 q00, .int .i64 q01, .int .i64 q02, .int .i64 q10, .int .i64 q11, .int .i64 q12, .int .i64 q20, .int .i64 q21, .int .i64 q22], .int .i64 0]) (by simp [results, Try.results58, go_sem, wrap_add_l, wrap_add_r, wrap_sub_l, wrap_sub_r, wrap_mul_l, wrap_mul_r, wrap_neg, wrap_wrap, *]) rfl ⟨rfl, ?_⟩
  repeat (first | exact Below.refl _ _ | assumption | exact Below.alloc (Below.refl _ _) (Nat.le_refl _) _ | refine Below.setCell ?_ (by first | (simp; done) | (simp; omega) | omega) _ | refine below_drewN ?_ _ | refine Below.alloc ?_ (by first | (simp; done) | (simp; omega) | omega) _ | refine Below.trans ?_ (Below.mono (by assumption) (by first | (simp; done) | (simp; omega) | omega)))

set_option maxHeartbeats 3200000 in
set_option maxRecDepth 100000 in
theorem Index_ok (p00 p01 p02 p10 p11 p12 p20 p21 p22 o0 o1 o2 h0 h1 h2 q00 q01 q02 q10 q11 q12 q20 q21 q22 : Int) (w : World) (HI : ∀ w : World, Calls Try.prog 52 #[.agg #[.int .i64 p00, .int .i64 p01, .int .i64 p02, .int .i64 p10, .int .i64 p11, .int .i64 p12, .int .i64 p20, .int .i64 p21, .int .i64 p22]] w fun e w' => e = .returned (.tuple #[.agg #[.int .i64 q00, .int .i64 q01, .int .i64 q02, .int .i64 q10, .int .i64 q11, .int .i64 q12, .int .i64 q20, .int .i64 q21, .int .i64 q22], .int .i64 0]) ∧ Below w.heap.size w w') (kh0 : -512 ≤ h0 ∧ h0 ≤ 512) (kh1 : -512 ≤ h1 ∧ h1 ≤ 512) (kh2 : -512 ≤ h2 ∧ h2 ≤ 512):
    Calls Try.prog 32 #[.agg #[.int .i64 p00, .int .i64 p01, .int .i64 p02, .int .i64 p10, .int .i64 p11, .int .i64 p12, .int .i64 p20, .int .i64 p21, .int .i64 p22, .int .i64 o0, .int .i64 o1, .int .i64 o2], .agg #[.int .i64 h0, .int .i64 h1, .int .i64 h2]] w fun e w' => e = .returned (.tuple #[.agg #[.int .i64 (wrap64 (h0 * q00 + h1 * q10 + h2 * q20)), .int .i64 (wrap64 (h0 * q01 + h1 * q11 + h2 * q21)), .int .i64 (wrap64 (h0 * q02 + h1 * q12 + h2 * q22))], .int .i64 0]) ∧ Below w.heap.size w w' := by
  have d0 : decide (h0 < -512) = false := decide_eq_false (by omega)
  have d1 : decide (h1 < -512) = false := decide_eq_false (by omega)
  have d2 : decide (h2 < -512) = false := decide_eq_false (by omega)
  have e0 : decide (512 < h0) = false := decide_eq_false (by omega)
  have e1 : decide (512 < h1) = false := decide_eq_false (by omega)
  have e2 : decide (512 < h2) = false := decide_eq_false (by omega)
  have HC := Lib.hid (fun w => bcheck_any p00 p01 p02 p10 p11 p12 p20 p21 p22 o0 o1 o2 q00 q01 q02 q10 q11 q12 q20 q21 q22 w HI)
  clear HI
  go_enter Try.func32, Try.ntmps32
  go_wp2
  refine wp_loop_rounds 4 ?_
  rw [rounds_succ]
  go_wp2
  rw [rounds_succ]
  go_wp2
  rw [rounds_succ]
  go_wp2
  rw [rounds_succ]
  go_wp2_with fail
  refine (HC.out _).mono ?_
  rintro e w1 ⟨rfl, hb1⟩
  obtain ⟨hc1, hf1⟩ := bcell hb1
  have hz1 := hb1.size
  try simp at hz1
  have z1_0 : w.heap.size < w1.heap.size := by omega
  have z1_1 : w.heap.size + 1 < w1.heap.size := by omega
  have z1_2 : w.heap.size + 1 + 1 < w1.heap.size := by omega
  clear d0 d1 d2 e0 e1 e2
  go_wp2
  refine wp_loop_rounds 4 ?_
  rw [rounds_succ]
  go_wp2
  refine wp_loop_rounds 4 ?_
  rw [rounds_succ]
  go_wp2
  refine region_headq 12 (by kernel_rfl) (by kernel_rfl) ?_
  simp only [List.take_succ_cons, List.take_zero, List.drop_succ_cons, List.drop_zero]
  repeat (go_big_quiet_step (fail))
  refine wpQuiet_nil ?_
  rintro _ ⟨nq, rfl⟩
  go_wp2
  rw [rounds_succ]
  go_wp2
  refine region_headq 12 (by kernel_rfl) (by kernel_rfl) ?_
  simp only [List.take_succ_cons, List.take_zero, List.drop_succ_cons, List.drop_zero]
  repeat (go_big_quiet_step (fail))
  refine wpQuiet_nil ?_
  rintro _ ⟨nq, rfl⟩
  go_wp2
  rw [rounds_succ]
  go_wp2
  refine region_headq 12 (by kernel_rfl) (by kernel_rfl) ?_
  simp only [List.take_succ_cons, List.take_zero, List.drop_succ_cons, List.drop_zero]
  repeat (go_big_quiet_step (fail))
  refine wpQuiet_nil ?_
  rintro _ ⟨nq, rfl⟩
  go_wp2
  rw [rounds_succ]
  go_wp2
  rw [rounds_succ]
  go_wp2
  refine wp_loop_rounds 4 ?_
  rw [rounds_succ]
  go_wp2
  refine region_headq 12 (by kernel_rfl) (by kernel_rfl) ?_
  simp only [List.take_succ_cons, List.take_zero, List.drop_succ_cons, List.drop_zero]
  repeat (go_big_quiet_step (fail))
  refine wpQuiet_nil ?_
  rintro _ ⟨nq, rfl⟩
  go_wp2
  rw [rounds_succ]
  go_wp2
  refine region_headq 12 (by kernel_rfl) (by kernel_rfl) ?_
  simp only [List.take_succ_cons, List.take_zero, List.drop_succ_cons, List.drop_zero]
  repeat (go_big_quiet_step (fail))
  refine wpQuiet_nil ?_
  rintro _ ⟨nq, rfl⟩
  go_wp2
  rw [rounds_succ]
  go_wp2
  refine region_headq 12 (by kernel_rfl) (by kernel_rfl) ?_
  simp only [List.take_succ_cons, List.take_zero, List.drop_succ_cons, List.drop_zero]
  repeat (go_big_quiet_step (fail))
  refine wpQuiet_nil ?_
  rintro _ ⟨nq, rfl⟩
  go_wp2
  rw [rounds_succ]
  go_wp2
  rw [rounds_succ]
  go_wp2
  refine wp_loop_rounds 4 ?_
  rw [rounds_succ]
  go_wp2
  refine region_headq 12 (by kernel_rfl) (by kernel_rfl) ?_
  simp only [List.take_succ_cons, List.take_zero, List.drop_succ_cons, List.drop_zero]
  repeat (go_big_quiet_step (fail))
  refine wpQuiet_nil ?_
  rintro _ ⟨nq, rfl⟩
  go_wp2
  rw [rounds_succ]
  go_wp2
  refine region_headq 12 (by kernel_rfl) (by kernel_rfl) ?_
  simp only [List.take_succ_cons, List.take_zero, List.drop_succ_cons, List.drop_zero]
  repeat (go_big_quiet_step (fail))
  refine wpQuiet_nil ?_
  rintro _ ⟨nq, rfl⟩
  go_wp2
  rw [rounds_succ]
  go_wp2
  refine region_headq 12 (by kernel_rfl) (by kernel_rfl) ?_
  simp only [List.take_succ_cons, List.take_zero, List.drop_succ_cons, List.drop_zero]
  repeat (go_big_quiet_step (fail))
  refine wpQuiet_nil ?_
  rintro _ ⟨nq, rfl⟩
  go_wp2
  rw [rounds_succ]
  go_wp2
  rw [rounds_succ]
  go_wp2
  refine bodyPost_ret (v := .tuple #[.agg #[.int .i64 (wrap64 (h0 * q00 + h1 * q10 + h2 * q20)), .int .i64 (wrap64 (h0 * q01 + h1 * q11 + h2 * q21)), .int .i64 (wrap64 (h0 * q02 + h1 * q12 + h2 * q22))], .int .i64 0]) (by simp [results, Try.results32, go_sem, wrap_add_l, wrap_add_r, wrap_sub_l, wrap_sub_r, wrap_mul_l, wrap_mul_r, wrap_neg, wrap_wrap, *]) rfl ⟨rfl, ?_⟩
  repeat (first | exact Below.refl _ _ | assumption | exact Below.alloc (Below.refl _ _) (Nat.le_refl _) _ | refine Below.setCell ?_ (by first | (simp; done) | (simp; omega) | omega) _ | refine below_drewN ?_ _ | refine Below.alloc ?_ (by first | (simp; done) | (simp; omega) | omega) _ | refine Below.trans ?_ (Below.mono (by assumption) (by first | (simp; done) | (simp; omega) | omega)))

end Go.Proofs.Ytdhlkhockpblhaa
