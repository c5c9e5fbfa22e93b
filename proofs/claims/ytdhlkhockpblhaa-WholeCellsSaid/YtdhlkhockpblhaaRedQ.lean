/-
  Obtuse and Shortest: what they return, when the steps are known to end.
-/
import Derived.Test.YtdhlkhockpblhaaRedP
namespace Go.Proofs.Ytdhlkhockpblhaa
open Go.RowKit
attribute [local irreducible] World.setCell

set_option linter.unusedSimpArgs false
set_option linter.unusedVariables false

@[go_sem ↓ high] theorem run_min_i (w : World) (ts : Array TypeId) (t : TypeId) (k k' : IntKind) (x y : Int) :
    (Builtin.min_ ts t #[.int k x, .int k' y]).run Try.prog w = .ok (.int k (min x y)) w := by
  have e : (if y < x then y else x) = min x y := by omega
  rw [← e]
  simp [Builtin.min_, Builtin.min2]
theorem dq_0 (m : Met) : Value.int .i64 (wrap64 (0 * m.aa * 0 + 0 * m.ab * 1 + 0 * m.ac * 0 + 1 * m.ab * 0 + 1 * m.bb * 1 + 1 * m.bc * 0 + 0 * m.ac * 0 + 0 * m.bc * 1 + 0 * m.cc * 0)) = .int .i64 (wrap64 (m.bb)) := congrArg (fun x => Value.int .i64 (wrap64 x)) (by omega)
theorem dq_1 (m : Met) : Value.int .i64 (wrap64 (0 * m.aa * 0 + 0 * m.ab * 0 + 0 * m.ac * 1 + 0 * m.ab * 0 + 0 * m.bb * 0 + 0 * m.bc * 1 + 1 * m.ac * 0 + 1 * m.bc * 0 + 1 * m.cc * 1)) = .int .i64 (wrap64 (m.cc)) := congrArg (fun x => Value.int .i64 (wrap64 x)) (by omega)
theorem dq_2 (m : Met) : Value.int .i64 (wrap64 (1 * m.aa * 1 + 1 * m.ab * 1 + 1 * m.ac * 1 + 1 * m.ab * 1 + 1 * m.bb * 1 + 1 * m.bc * 1 + 1 * m.ac * 1 + 1 * m.bc * 1 + 1 * m.cc * 1)) = .int .i64 (wrap64 (m.aa + m.bb + m.cc + 2 * m.bc + 2 * m.ac + 2 * m.ab)) := congrArg (fun x => Value.int .i64 (wrap64 x)) (by omega)
theorem dq_3 (m : Met) : Value.int .i64 (wrap64 (1 * m.aa * 1 + 1 * m.ab * 1 + 1 * m.ac * 0 + 1 * m.ab * 1 + 1 * m.bb * 1 + 1 * m.bc * 0 + 0 * m.ac * 1 + 0 * m.bc * 1 + 0 * m.cc * 0)) = .int .i64 (wrap64 (m.aa + m.bb + 2 * m.ab)) := congrArg (fun x => Value.int .i64 (wrap64 x)) (by omega)
theorem dq_4 (m : Met) : Value.int .i64 (wrap64 (1 * m.aa * 1 + 1 * m.ab * 0 + 1 * m.ac * 1 + 0 * m.ab * 1 + 0 * m.bb * 0 + 0 * m.bc * 1 + 1 * m.ac * 1 + 1 * m.bc * 0 + 1 * m.cc * 1)) = .int .i64 (wrap64 (m.aa + m.cc + 2 * m.ac)) := congrArg (fun x => Value.int .i64 (wrap64 x)) (by omega)
theorem dq_5 (m : Met) : Value.int .i64 (wrap64 (0 * m.aa * 0 + 0 * m.ab * 1 + 0 * m.ac * 1 + 1 * m.ab * 0 + 1 * m.bb * 1 + 1 * m.bc * 1 + 1 * m.ac * 0 + 1 * m.bc * 1 + 1 * m.cc * 1)) = .int .i64 (wrap64 (m.bb + m.cc + 2 * m.bc)) := congrArg (fun x => Value.int .i64 (wrap64 x)) (by omega)
def sev (m : Met) : Nat → Int
  | 0 => m.aa
  | 1 => wrap64 (m.bb)
  | 2 => wrap64 (m.cc)
  | 3 => wrap64 (m.aa + m.bb + m.cc + 2 * m.bc + 2 * m.ac + 2 * m.ab)
  | 4 => wrap64 (m.aa + m.bb + 2 * m.ab)
  | 5 => wrap64 (m.aa + m.cc + 2 * m.ac)
  | 6 => wrap64 (m.bb + m.cc + 2 * m.bc)
  | _ => m.aa
def lst (m : Met) : Nat → Int
  | 0 => m.aa
  | n + 1 => min (lst m n) (sev m (n + 1))
set_option maxHeartbeats 400000 in
theorem Shortest_bad (m : Met) (C : Int) (w : World) (h : chk m = C) (hC : C ≠ 0):
    Calls Try.prog 15 #[.agg #[.int .i64 m.aa, .int .i64 m.bb, .int .i64 m.cc, .int .i64 m.bc, .int .i64 m.ac, .int .i64 m.ab]] w fun e w' => e = .returned (.tuple #[.int .i64 0, .int .i64 C]) ∧ Below w.heap.size w w' := by
  have E := Lib.hid h; clear h
  go_enter Try.func15, Try.ntmps15
  go_wp2_with fail
  refine (to_v (congrArg (Value.int .i64) E.out) (check_any _ _ _ _ _ _ _)).mono ?_
  rintro e w1 ⟨rfl, hb1⟩
  obtain ⟨hc1, hf1⟩ := bcell hb1
  have hz1 := hb1.size
  try simp at hz1
  have z1_0 : w.heap.size < w1.heap.size := by omega
  go_wp2
  refine bodyPost_ret (v := .tuple #[.int .i64 0, .int .i64 C]) (by simp [results, Try.results15, go_sem, wrap_add_l, wrap_add_r, wrap_sub_l, wrap_sub_r, wrap_mul_l, wrap_mul_r, wrap_neg, wrap_wrap, wrap3, *]) rfl ⟨rfl, ?_⟩
  repeat (first | exact Below.refl _ _ | assumption | exact Below.alloc (Below.refl _ _) (Nat.le_refl _) _ | refine Below.setCell ?_ (by first | (simp; done) | (simp; omega) | omega) _ | refine below_drewN ?_ _ | refine Below.alloc ?_ (by first | (simp; done) | (simp; omega) | omega) _ | refine Below.trans ?_ (Below.mono (by assumption) (by first | (simp; done) | (simp; omega) | omega)))

set_option maxHeartbeats 400000 in
theorem Obtuse_bad (m : Met) (C : Int) (w : World) (h : chk m = C) (hC : C ≠ 0):
    Calls Try.prog 13 #[.agg #[.int .i64 m.aa, .int .i64 m.bb, .int .i64 m.cc, .int .i64 m.bc, .int .i64 m.ac, .int .i64 m.ab]] w fun e w' => e = .returned (.tuple #[.agg #[.int .i64 0, .int .i64 0, .int .i64 0, .int .i64 0, .int .i64 0, .int .i64 0], .agg #[.int .i64 0, .int .i64 0, .int .i64 0, .int .i64 0, .int .i64 0, .int .i64 0, .int .i64 0, .int .i64 0, .int .i64 0], .int .i64 0, .int .i64 C]) ∧ Below w.heap.size w w' := by
  have E := Lib.hid h; clear h
  go_enter Try.func13, Try.ntmps13
  go_wp2_with fail
  refine (to_v (congrArg (Value.int .i64) E.out) (check_any _ _ _ _ _ _ _)).mono ?_
  rintro e w1 ⟨rfl, hb1⟩
  obtain ⟨hc1, hf1⟩ := bcell hb1
  have hz1 := hb1.size
  try simp at hz1
  have z1_0 : w.heap.size < w1.heap.size := by omega
  have z1_1 : w.heap.size + 1 < w1.heap.size := by omega
  have z1_2 : w.heap.size + 1 + 1 < w1.heap.size := by omega
  go_wp2
  refine bodyPost_ret (v := .tuple #[.agg #[.int .i64 0, .int .i64 0, .int .i64 0, .int .i64 0, .int .i64 0, .int .i64 0], .agg #[.int .i64 0, .int .i64 0, .int .i64 0, .int .i64 0, .int .i64 0, .int .i64 0, .int .i64 0, .int .i64 0, .int .i64 0], .int .i64 0, .int .i64 C]) (by simp [results, Try.results13, go_sem, wrap_add_l, wrap_add_r, wrap_sub_l, wrap_sub_r, wrap_mul_l, wrap_mul_r, wrap_neg, wrap_wrap, wrap3, *]) rfl ⟨rfl, ?_⟩
  repeat (first | exact Below.refl _ _ | assumption | exact Below.alloc (Below.refl _ _) (Nat.le_refl _) _ | refine Below.setCell ?_ (by first | (simp; done) | (simp; omega) | omega) _ | refine below_drewN ?_ _ | refine Below.alloc ?_ (by first | (simp; done) | (simp; omega) | omega) _ | refine Below.trans ?_ (Below.mono (by assumption) (by first | (simp; done) | (simp; omega) | omega)))

set_option maxHeartbeats 1600000 in
set_option maxRecDepth 100000 in
theorem Shortest_run (m : Met) (N : Nat) (hNb : N < 4611686018427387904) (hN : pick (it m N) = 6) (hl : ∀ k, k < N → pick (it m k) < 6) (w : World) (h : chk m = 0):
    Calls Try.prog 15 #[.agg #[.int .i64 m.aa, .int .i64 m.bb, .int .i64 m.cc, .int .i64 m.bc, .int .i64 m.ac, .int .i64 m.ab]] w fun e w' => e = .returned (.tuple #[.int .i64 (lst (it m N) 6), .int .i64 0]) ∧ Below w.heap.size w w' := by
  obtain ⟨mk, emk⟩ : ∃ x, x = it m N := ⟨_, rfl⟩
  obtain ⟨pk, epk⟩ : ∃ x, x = al m N := ⟨_, rfl⟩
  have ob := fun w => obtuse_run m N hNb hN hl w
  rw [← emk, ← epk] at ob
  have OB := Lib.hid ob; have EM := Lib.hid emk; have EP := Lib.hid epk; clear ob emk epk
  have E := Lib.hid h; clear h
  go_enter Try.func15, Try.ntmps15
  go_wp2_with fail
  refine (to_v (congrArg (Value.int .i64) E.out) (check_any _ _ _ _ _ _ _)).mono ?_
  rintro e w1 ⟨rfl, hb1⟩
  obtain ⟨hc1, hf1⟩ := bcell hb1
  have hz1 := hb1.size
  try simp at hz1
  have z1_0 : w.heap.size < w1.heap.size := by omega
  go_wp2_with fail
  refine (OB.out _).mono ?_
  rintro e w2 ⟨rfl, hb2⟩
  obtain ⟨hc2, hf2⟩ := bcell hb2
  have hz2 := hb2.size
  try simp at hz2
  have z2_0 : w.heap.size < w2.heap.size := by omega
  go_wp2_with fail
  refine (matrix_any _ _ _ _ _ _ _).mono ?_
  rintro e w3 ⟨rfl, hb3⟩
  obtain ⟨hc3, hf3⟩ := bcell hb3
  have hz3 := hb3.size
  try simp at hz3
  have z3_0 : w.heap.size < w3.heap.size := by omega
  have z3_1 : w2.heap.size < w3.heap.size := by omega
  have z3_2 : w2.heap.size + 1 < w3.heap.size := by omega
  go_wp2
  refine wp_loop_rounds 8 ?_
  rw [rounds_succ]
  go_wp2_with fail
  refine (to_v (dq_0 mk) (dot_any _ _ _ _ _ _ _ _ _ _ _ _ _ _ _ _)).mono ?_
  rintro e w4 ⟨rfl, hb4⟩
  obtain ⟨hc4, hf4⟩ := bcell hb4
  have hz4 := hb4.size
  try simp at hz4
  have z4_0 : w.heap.size < w4.heap.size := by omega
  have z4_1 : w2.heap.size < w4.heap.size := by omega
  have z4_2 : w2.heap.size + 1 < w4.heap.size := by omega
  have z4_3 : w3.heap.size < w4.heap.size := by omega
  have z4_4 : w3.heap.size + 1 < w4.heap.size := by omega
  have z4_5 : w3.heap.size + 1 + 1 < w4.heap.size := by omega
  go_wp2
  rw [rounds_succ]
  go_wp2_with fail
  refine (to_v (dq_1 mk) (dot_any _ _ _ _ _ _ _ _ _ _ _ _ _ _ _ _)).mono ?_
  rintro e w5 ⟨rfl, hb5⟩
  obtain ⟨hc5, hf5⟩ := bcell hb5
  have hz5 := hb5.size
  try simp at hz5
  have z5_0 : w.heap.size < w5.heap.size := by omega
  have z5_1 : w2.heap.size < w5.heap.size := by omega
  have z5_2 : w2.heap.size + 1 < w5.heap.size := by omega
  have z5_3 : w3.heap.size < w5.heap.size := by omega
  have z5_4 : w3.heap.size + 1 < w5.heap.size := by omega
  have z5_5 : w3.heap.size + 1 + 1 < w5.heap.size := by omega
  have z5_6 : w4.heap.size < w5.heap.size := by omega
  go_wp2
  rw [rounds_succ]
  go_wp2_with fail
  refine (to_v (dq_2 mk) (dot_any _ _ _ _ _ _ _ _ _ _ _ _ _ _ _ _)).mono ?_
  rintro e w6 ⟨rfl, hb6⟩
  obtain ⟨hc6, hf6⟩ := bcell hb6
  have hz6 := hb6.size
  try simp at hz6
  have z6_0 : w.heap.size < w6.heap.size := by omega
  have z6_1 : w2.heap.size < w6.heap.size := by omega
  have z6_2 : w2.heap.size + 1 < w6.heap.size := by omega
  have z6_3 : w3.heap.size < w6.heap.size := by omega
  have z6_4 : w3.heap.size + 1 < w6.heap.size := by omega
  have z6_5 : w3.heap.size + 1 + 1 < w6.heap.size := by omega
  have z6_6 : w4.heap.size < w6.heap.size := by omega
  have z6_7 : w5.heap.size < w6.heap.size := by omega
  go_wp2
  rw [rounds_succ]
  go_wp2_with fail
  refine (to_v (dq_3 mk) (dot_any _ _ _ _ _ _ _ _ _ _ _ _ _ _ _ _)).mono ?_
  rintro e w7 ⟨rfl, hb7⟩
  obtain ⟨hc7, hf7⟩ := bcell hb7
  have hz7 := hb7.size
  try simp at hz7
  have z7_0 : w.heap.size < w7.heap.size := by omega
  have z7_1 : w2.heap.size < w7.heap.size := by omega
  have z7_2 : w2.heap.size + 1 < w7.heap.size := by omega
  have z7_3 : w3.heap.size < w7.heap.size := by omega
  have z7_4 : w3.heap.size + 1 < w7.heap.size := by omega
  have z7_5 : w3.heap.size + 1 + 1 < w7.heap.size := by omega
  have z7_6 : w4.heap.size < w7.heap.size := by omega
  have z7_7 : w5.heap.size < w7.heap.size := by omega
  have z7_8 : w6.heap.size < w7.heap.size := by omega
  go_wp2
  rw [rounds_succ]
  go_wp2_with fail
  refine (to_v (dq_4 mk) (dot_any _ _ _ _ _ _ _ _ _ _ _ _ _ _ _ _)).mono ?_
  rintro e w8 ⟨rfl, hb8⟩
  obtain ⟨hc8, hf8⟩ := bcell hb8
  have hz8 := hb8.size
  try simp at hz8
  have z8_0 : w.heap.size < w8.heap.size := by omega
  have z8_1 : w2.heap.size < w8.heap.size := by omega
  have z8_2 : w2.heap.size + 1 < w8.heap.size := by omega
  have z8_3 : w3.heap.size < w8.heap.size := by omega
  have z8_4 : w3.heap.size + 1 < w8.heap.size := by omega
  have z8_5 : w3.heap.size + 1 + 1 < w8.heap.size := by omega
  have z8_6 : w4.heap.size < w8.heap.size := by omega
  have z8_7 : w5.heap.size < w8.heap.size := by omega
  have z8_8 : w6.heap.size < w8.heap.size := by omega
  have z8_9 : w7.heap.size < w8.heap.size := by omega
  go_wp2
  rw [rounds_succ]
  go_wp2_with fail
  refine (to_v (dq_5 mk) (dot_any _ _ _ _ _ _ _ _ _ _ _ _ _ _ _ _)).mono ?_
  rintro e w9 ⟨rfl, hb9⟩
  obtain ⟨hc9, hf9⟩ := bcell hb9
  have hz9 := hb9.size
  try simp at hz9
  have z9_0 : w.heap.size < w9.heap.size := by omega
  have z9_1 : w2.heap.size < w9.heap.size := by omega
  have z9_2 : w2.heap.size + 1 < w9.heap.size := by omega
  have z9_3 : w3.heap.size < w9.heap.size := by omega
  have z9_4 : w3.heap.size + 1 < w9.heap.size := by omega
  have z9_5 : w3.heap.size + 1 + 1 < w9.heap.size := by omega
  have z9_6 : w4.heap.size < w9.heap.size := by omega
  have z9_7 : w5.heap.size < w9.heap.size := by omega
  have z9_8 : w6.heap.size < w9.heap.size := by omega
  have z9_9 : w7.heap.size < w9.heap.size := by omega
  have z9_10 : w8.heap.size < w9.heap.size := by omega
  go_wp2
  rw [rounds_succ]
  go_wp2
  refine bodyPost_ret (v := .tuple #[.int .i64 (lst mk 6), .int .i64 0]) (by simp [results, Try.results15, go_sem, wrap_add_l, wrap_add_r, wrap_sub_l, wrap_sub_r, wrap_mul_l, wrap_mul_r, wrap_neg, wrap_wrap, wrap3, lst, sev, *]) rfl ⟨(by rw [← EM.out]), ?_⟩
  repeat (first | exact Below.refl _ _ | assumption | exact Below.alloc (Below.refl _ _) (Nat.le_refl _) _ | refine Below.setCell ?_ (by first | (simp; done) | (simp; omega) | omega) _ | refine below_drewN ?_ _ | refine Below.alloc ?_ (by first | (simp; done) | (simp; omega) | omega) _ | refine Below.trans ?_ (Below.mono (by assumption) (by first | (simp; done) | (simp; omega) | omega)))

end Go.Proofs.Ytdhlkhockpblhaa
