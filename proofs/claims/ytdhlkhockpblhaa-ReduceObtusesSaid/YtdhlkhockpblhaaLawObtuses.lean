/-
  The law ReduceObtuses: it returns true.
-/
import Derived.Test.YtdhlkhockpblhaaRedK7
import Derived.Test.YtdhlkhockpblhaaRedN2
import Derived.Test.YtdhlkhockpblhaaRedAw
import Derived.Test.YtdhlkhockpblhaaLawFalls
namespace Go.Proofs.Ytdhlkhockpblhaa
open Go.RowKit
attribute [local irreducible] World.setCell

set_option linter.unusedSimpArgs false
set_option linter.unusedVariables false

set_option maxHeartbeats 1600000 in
set_option maxRecDepth 100000 in
theorem obt_v (m M : Met) (Q : Mt) (k c s : Int) (H1 : ∀ w, Calls Try.prog 13 #[.agg #[.int .i64 m.aa, .int .i64 m.bb, .int .i64 m.cc, .int .i64 m.bc, .int .i64 m.ac, .int .i64 m.ab]] w fun e w' => e = .returned (.tuple #[.agg #[.int .i64 M.aa, .int .i64 M.bb, .int .i64 M.cc, .int .i64 M.bc, .int .i64 M.ac, .int .i64 M.ab], .agg #[.int .i64 Q.p00, .int .i64 Q.p01, .int .i64 Q.p02, .int .i64 Q.p10, .int .i64 Q.p11, .int .i64 Q.p12, .int .i64 Q.p20, .int .i64 Q.p21, .int .i64 Q.p22], .int .i64 k, .int .i64 c]) ∧ Below w.heap.size w w') (H2 : ∀ w, Calls Try.prog 14 #[.agg #[.int .i64 m.aa, .int .i64 m.bb, .int .i64 m.cc, .int .i64 m.bc, .int .i64 m.ac, .int .i64 m.ab]] w fun e w' => e = .returned (.tuple #[.agg #[.int .i64 M.aa, .int .i64 M.bb, .int .i64 M.cc, .int .i64 M.bc, .int .i64 M.ac, .int .i64 M.ab], .agg #[.int .i64 Q.p00, .int .i64 Q.p01, .int .i64 Q.p02, .int .i64 Q.p10, .int .i64 Q.p11, .int .i64 Q.p12, .int .i64 Q.p20, .int .i64 Q.p21, .int .i64 Q.p22], .int .i64 k, .int .i64 c]) ∧ Below w.heap.size w w') (H3 : ∀ w, Calls Try.prog 15 #[.agg #[.int .i64 m.aa, .int .i64 m.bb, .int .i64 m.cc, .int .i64 m.bc, .int .i64 m.ac, .int .i64 m.ab]] w fun e w' => e = .returned (.tuple #[.int .i64 s, .int .i64 c]) ∧ Below w.heap.size w w') (H4 : ∀ w, Calls Try.prog 16 #[.agg #[.int .i64 m.aa, .int .i64 m.bb, .int .i64 m.cc, .int .i64 m.bc, .int .i64 m.ac, .int .i64 m.ab]] w fun e w' => e = .returned (.tuple #[.int .i64 s, .int .i64 c]) ∧ Below w.heap.size w w') (w : World) :
    Calls Try.prog 4 #[.agg #[.int .i64 m.aa, .int .i64 m.bb, .int .i64 m.cc, .int .i64 m.bc, .int .i64 m.ac, .int .i64 m.ab]] w fun e w' => e = .returned (.bool true) ∧ Below w.heap.size w w' := by
  have B1 := Lib.hid H1; have B2 := Lib.hid H2; have B3 := Lib.hid H3; have B4 := Lib.hid H4; clear H1 H2 H3 H4
  go_enter Try.func4, Try.ntmps4
  go_wp2_with fail
  refine (B1.out _).mono ?_
  rintro e w1 ⟨rfl, hb1⟩
  obtain ⟨hc1, hf1⟩ := bcell hb1
  have hz1 := hb1.size
  try simp at hz1
  have z1_0 : w.heap.size < w1.heap.size := by omega
  go_wp2_with fail
  refine (B2.out _).mono ?_
  rintro e w2 ⟨rfl, hb2⟩
  obtain ⟨hc2, hf2⟩ := bcell hb2
  have hz2 := hb2.size
  try simp at hz2
  have z2_0 : w.heap.size < w2.heap.size := by omega
  have z2_1 : w1.heap.size < w2.heap.size := by omega
  have z2_2 : w1.heap.size + 1 < w2.heap.size := by omega
  have y2_0 : w.heap.size < w1.heap.size + 1 + 1 := by omega
  go_wp2_with fail
  refine (B3.out _).mono ?_
  rintro e w3 ⟨rfl, hb3⟩
  obtain ⟨hc3, hf3⟩ := bcell hb3
  have hz3 := hb3.size
  try simp at hz3
  have z3_0 : w.heap.size < w3.heap.size := by omega
  have z3_1 : w1.heap.size < w3.heap.size := by omega
  have z3_2 : w1.heap.size + 1 < w3.heap.size := by omega
  have z3_3 : w2.heap.size < w3.heap.size := by omega
  have z3_4 : w2.heap.size + 1 < w3.heap.size := by omega
  have y3_0 : w.heap.size < w2.heap.size + 1 + 1 := by omega
  have y3_1 : w1.heap.size < w2.heap.size + 1 + 1 := by omega
  have y3_2 : w1.heap.size + 1 < w2.heap.size + 1 + 1 := by omega
  go_wp2_with fail
  refine (B4.out _).mono ?_
  rintro e w4 ⟨rfl, hb4⟩
  obtain ⟨hc4, hf4⟩ := bcell hb4
  have hz4 := hb4.size
  try simp at hz4
  have z4_0 : w.heap.size < w4.heap.size := by omega
  have z4_1 : w1.heap.size < w4.heap.size := by omega
  have z4_2 : w1.heap.size + 1 < w4.heap.size := by omega
  have z4_3 : w2.heap.size < w4.heap.size := by omega
  have z4_4 : w2.heap.size + 1 < w4.heap.size := by omega
  go_wp2_with fail
  refine (awake_any _).mono ?_
  rintro e w5 ⟨rfl, hb5⟩
  obtain ⟨hc5, hf5⟩ := bcell hb5
  have hz5 := hb5.size
  try simp at hz5
  have z5_0 : w.heap.size < w5.heap.size := by omega
  have z5_1 : w1.heap.size < w5.heap.size := by omega
  have z5_2 : w1.heap.size + 1 < w5.heap.size := by omega
  have z5_3 : w2.heap.size < w5.heap.size := by omega
  have z5_4 : w2.heap.size + 1 < w5.heap.size := by omega
  go_wp2
  go_ret
  refine ⟨rfl, ?_⟩
  repeat (first | exact Below.refl _ _ | assumption | exact Below.alloc (Below.refl _ _) (Nat.le_refl _) _ | refine Below.setCell ?_ (by first | (simp; done) | (simp; omega) | omega) _ | refine below_drewN ?_ _ | refine Below.alloc ?_ (by first | (simp; done) | (simp; omega) | omega) _ | refine Below.trans ?_ (Below.mono (by assumption) (by first | (simp; done) | (simp; omega) | omega)))

theorem obtuses_m (m : Met) (w : World) : Calls Try.prog 4 #[.agg #[.int .i64 m.aa, .int .i64 m.bb, .int .i64 m.cc, .int .i64 m.bc, .int .i64 m.ac, .int .i64 m.ab]] w fun e w' => e = .returned (.bool true) ∧ Below w.heap.size w w' := by
  by_cases hC : chk m = 0
  · obtain ⟨N, hN0, hN, hl⟩ := chk_end hC
    have hu := (chk_min hC hN hl).1
    exact obt_v m (it m N) (al m N) N 0 (lst (it m N) 6) (fun w => Obtuse_ok m N (by omega) hN hl w hC) (fun w => DocObtuse_run m N (by omega) hN hl w hC) (fun w => Shortest_run m N (by omega) hN hl w hC)
      (fun w => (DocShortest_run m w hC).mono fun e w' h => by
        obtain ⟨⟨n, hm, he⟩, hb⟩ := h
        rw [hm.uniq hu] at he
        exact ⟨he, hb⟩) w
  · exact obt_v m ⟨0, 0, 0, 0, 0, 0⟩ ⟨0, 0, 0, 0, 0, 0, 0, 0, 0⟩ 0 (chk m) 0 (fun w => Obtuse_bad m _ w rfl hC) (fun w => DocObtuse_bad m _ w rfl hC) (fun w => Shortest_bad m _ w rfl hC) (fun w => DocShortest_bad m _ w rfl hC) w
theorem obtuses_any (aa bb cc bc ac ab : Int) (w : World) : Calls Try.prog 4 #[.agg #[.int .i64 aa, .int .i64 bb, .int .i64 cc, .int .i64 bc, .int .i64 ac, .int .i64 ab]] w fun e w' => e = .returned (.bool true) ∧ Below w.heap.size w w' := obtuses_m ⟨aa, bb, cc, bc, ac, ab⟩ w
end Go.Proofs.Ytdhlkhockpblhaa
