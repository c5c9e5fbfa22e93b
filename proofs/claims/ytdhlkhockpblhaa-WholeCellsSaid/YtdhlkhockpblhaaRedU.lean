/-
  Contracts that the laws without the document use.
-/
import Derived.Test.YtdhlkhockpblhaaRedQ
import Derived.Test.YtdhlkhockpblhaaRedT
namespace Go.Proofs.Ytdhlkhockpblhaa
open Go.RowKit
attribute [local irreducible] World.setCell

set_option linter.unusedSimpArgs false
set_option linter.unusedVariables false

set_option maxHeartbeats 1600000 in
set_option maxRecDepth 100000 in
theorem Obtuse_ok (m : Met) (N : Nat) (hNb : N < 4611686018427387904) (hN : pick (it m N) = 6) (hl : ∀ k, k < N → pick (it m k) < 6) (w : World) (h : chk m = 0):
    Calls Try.prog 13 #[.agg #[.int .i64 m.aa, .int .i64 m.bb, .int .i64 m.cc, .int .i64 m.bc, .int .i64 m.ac, .int .i64 m.ab]] w fun e w' => e = .returned (.tuple #[.agg #[.int .i64 (it m N).aa, .int .i64 (it m N).bb, .int .i64 (it m N).cc, .int .i64 (it m N).bc, .int .i64 (it m N).ac, .int .i64 (it m N).ab], .agg #[.int .i64 (al m N).p00, .int .i64 (al m N).p01, .int .i64 (al m N).p02, .int .i64 (al m N).p10, .int .i64 (al m N).p11, .int .i64 (al m N).p12, .int .i64 (al m N).p20, .int .i64 (al m N).p21, .int .i64 (al m N).p22], .int .i64 N, .int .i64 0]) ∧ Below w.heap.size w w' := by
  obtain ⟨mk, emk⟩ : ∃ x, x = it m N := ⟨_, rfl⟩
  obtain ⟨pk, epk⟩ : ∃ x, x = al m N := ⟨_, rfl⟩
  have ob := fun w => obtuse_run m N hNb hN hl w
  rw [← emk, ← epk] at ob
  have OB := Lib.hid ob; have EM := Lib.hid emk; have EP := Lib.hid epk; clear ob emk epk
  have E := Lib.hid h; clear h
  go_enter Try.func13, Try.ntmps13
  go_wp2_with fail
  refine (to_v (congrArg (Value.int .i64) E.out) (check_any _ _ _ _ _ _ _)).mono ?_
  rintro e w1 ⟨rfl, hb1⟩
  obtain ⟨hc1, hf1⟩ := bcell hb1
  have hz1 := hb1.size
  try simp at hz1
  have z1_0 : w.heap.size < w1.heap.size := by omega
  have z1_1 : w.heap.size + 1 < w1.heap.size := by omega
  have z1_2 : w.heap.size + 1 + 1 < w1.heap.size := by omega
  go_wp2_with fail
  refine (OB.out _).mono ?_
  rintro e w2 ⟨rfl, hb2⟩
  obtain ⟨hc2, hf2⟩ := bcell hb2
  have hz2 := hb2.size
  try simp at hz2
  have z2_0 : w.heap.size < w2.heap.size := by omega
  have z2_1 : w.heap.size + 1 < w2.heap.size := by omega
  have z2_2 : w.heap.size + 1 + 1 < w2.heap.size := by omega
  go_wp2
  go_region
  all_goals go_wp2
  all_goals refine bodyPost_ret (v := .tuple #[.agg #[.int .i64 mk.aa, .int .i64 mk.bb, .int .i64 mk.cc, .int .i64 mk.bc, .int .i64 mk.ac, .int .i64 mk.ab], .agg #[.int .i64 pk.p00, .int .i64 pk.p01, .int .i64 pk.p02, .int .i64 pk.p10, .int .i64 pk.p11, .int .i64 pk.p12, .int .i64 pk.p20, .int .i64 pk.p21, .int .i64 pk.p22], .int .i64 N, .int .i64 0]) (by simp [results, Try.results13, go_sem, wrap_add_l, wrap_add_r, wrap_sub_l, wrap_sub_r, wrap_mul_l, wrap_mul_r, wrap_neg, wrap_wrap, wrap3, *]) rfl ⟨(by rw [EM.out, EP.out]), ?_⟩
  all_goals (repeat (first | exact Below.refl _ _ | assumption | exact Below.alloc (Below.refl _ _) (Nat.le_refl _) _ | refine Below.setCell ?_ (by first | (simp; done) | (simp; omega) | omega) _ | refine below_drewN ?_ _ | refine Below.alloc ?_ (by first | (simp; done) | (simp; omega) | omega) _ | refine Below.trans ?_ (Below.mono (by assumption) (by first | (simp; done) | (simp; omega) | omega))))

def sx (m : Met) (k : Nat) : Int := wrap64 (sixE m k)
set_option maxHeartbeats 800000 in
theorem six_raw (aa bb cc bc ac ab : Int) (w : World) :
    Calls Try.prog 18 #[.agg #[.int .i64 aa, .int .i64 bb, .int .i64 cc, .int .i64 bc, .int .i64 ac, .int .i64 ab]] w fun e w' => e = .returned (.agg #[.int .i64 (bc), .int .i64 (ac), .int .i64 (ab), .int .i64 (wrap64 (-aa - ab - ac)), .int .i64 (wrap64 (-bb - ab - bc)), .int .i64 (wrap64 (-cc - ac - bc))]) ∧ Below w.heap.size w w' := by
  go_enter Try.func18, Try.ntmps18
  go_wp2
  refine bodyPost_ret (v := .agg #[.int .i64 (bc), .int .i64 (ac), .int .i64 (ab), .int .i64 (wrap64 (-aa - ab - ac)), .int .i64 (wrap64 (-bb - ab - bc)), .int .i64 (wrap64 (-cc - ac - bc))]) (by simp [results, Try.results18, go_sem, wrap_add_l, wrap_add_r, wrap_sub_l, wrap_sub_r, wrap_mul_l, wrap_mul_r, wrap_neg, wrap_wrap, wrap3, *]) rfl ⟨rfl, ?_⟩
  repeat (first | exact Below.refl _ _ | assumption | exact Below.alloc (Below.refl _ _) (Nat.le_refl _) _ | refine Below.setCell ?_ (by first | (simp; done) | (simp; omega) | omega) _ | refine below_drewN ?_ _ | refine Below.alloc ?_ (by first | (simp; done) | (simp; omega) | omega) _ | refine Below.trans ?_ (Below.mono (by assumption) (by first | (simp; done) | (simp; omega) | omega)))

def sqv (m : Met) : Int := wrap64 (2 * (m.aa + m.bb + m.cc) + 2 * (m.ab + m.ac + m.bc))
set_option maxHeartbeats 800000 in
theorem squares_any (m : Met) (w : World) :
    Calls Try.prog 19 #[.agg #[.int .i64 m.aa, .int .i64 m.bb, .int .i64 m.cc, .int .i64 m.bc, .int .i64 m.ac, .int .i64 m.ab]] w fun e w' => e = .returned (.int .i64 (sqv m)) ∧ Below w.heap.size w w' := by
  go_enter Try.func19, Try.ntmps19
  go_wp2
  go_ret
  refine ⟨ret_int ?_, ?_⟩
  · simp only [wrap_add_l, wrap_add_r, wrap_mul_r, wrap_mul_l, sqv]
  · repeat (first | exact Below.refl _ _ | assumption | exact Below.alloc (Below.refl _ _) (Nat.le_refl _) _ | refine Below.setCell ?_ (by first | (simp; done) | (simp; omega) | omega) _ | refine below_drewN ?_ _ | refine Below.alloc ?_ (by first | (simp; done) | (simp; omega) | omega) _ | refine Below.trans ?_ (Below.mono (by assumption) (by first | (simp; done) | (simp; omega) | omega)))
theorem sq_w (x y : Int) : wrap64 (wrap64 (2 * x) + wrap64 (2 * y)) = wrap64 (2 * x + 2 * y) := by unfold wrap64; omega

end Go.Proofs.Ytdhlkhockpblhaa
