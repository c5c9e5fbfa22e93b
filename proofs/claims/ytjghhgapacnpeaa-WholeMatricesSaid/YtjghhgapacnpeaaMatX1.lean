/-
  The maps of the hexagon, the walk, part 1.
-/
import Derived.Test.YtjghhgapacnpeaaMatG0
import Derived.Test.YtjghhgapacnpeaaMatS0
namespace Go.Proofs.Ytjghhgapacnpeaa
open Go.RowKit
attribute [local irreducible] World.setCell

set_option linter.unusedSimpArgs false
set_option linter.unusedVariables false

set_option maxHeartbeats 1600000 in
set_option maxRecDepth 100000 in
theorem sxn_8 (k : Int) (w : World) (k1 : 0 ≤ k) (k2 : k ≤ 255) (g2 : k / 6 % 2 = 1) (g3 : k / 12 % 2 = 0) (h1 : k.tmod 6 = 2):
    Calls Try.prog 14 #[.int .u8 k] w fun e w' => e = .returned (.agg #[.int .i64 ((-1)), .int .i64 0, .int .i64 0, .int .i64 ((-1)), .int .i64 1, .int .i64 0, .int .i64 0, .int .i64 0, .int .i64 ((-1))]) ∧ Below w.heap.size w w' := by
  go_enter Try.func14, Try.ntmps14
  go_wp2
  refine wp_loop_rounds 3 ?_
  rw [rounds_succ]
  go_wp2_with fail
  refine (ttimes_e 1 0 0 0 1 0 0 0 1 1 (-1) 0 1 0 0 0 0 1 1 (-1) 0 1 0 0 0 0 1 (by decide +kernel) _).mono ?_
  rintro e w1 ⟨rfl, hb1⟩
  obtain ⟨hc1, hf1⟩ := bcell hb1
  have hz1 := hb1.size
  try simp at hz1
  have z1_0 : w.heap.size < w1.heap.size := by omega
  have z1_1 : w.heap.size + 1 < w1.heap.size := by omega
  have z1_2 : w.heap.size + 1 + 1 < w1.heap.size := by omega
  go_wp2
  rw [rounds_succ]
  go_wp2_with fail
  refine (ttimes_e 1 (-1) 0 1 0 0 0 0 1 1 (-1) 0 1 0 0 0 0 1 0 (-1) 0 1 (-1) 0 0 0 1 (by decide +kernel) _).mono ?_
  rintro e w2 ⟨rfl, hb2⟩
  obtain ⟨hc2, hf2⟩ := bcell hb2
  have hz2 := hb2.size
  try simp at hz2
  have z2_0 : w.heap.size < w2.heap.size := by omega
  have z2_1 : w.heap.size + 1 < w2.heap.size := by omega
  have z2_2 : w.heap.size + 1 + 1 < w2.heap.size := by omega
  go_wp2
  rw [rounds_succ]
  go_wp2_with fail
  refine (ttimes_e 0 (-1) 0 1 (-1) 0 0 0 1 0 1 0 1 0 0 0 0 (-1) (-1) 0 0 (-1) 1 0 0 0 (-1) (by decide +kernel) _).mono ?_
  rintro e w3 ⟨rfl, hb3⟩
  obtain ⟨hc3, hf3⟩ := bcell hb3
  have hz3 := hb3.size
  try simp at hz3
  have z3_0 : w.heap.size < w3.heap.size := by omega
  have z3_1 : w.heap.size + 1 < w3.heap.size := by omega
  have z3_2 : w.heap.size + 1 + 1 < w3.heap.size := by omega
  go_wp2
  refine bodyPost_ret (v := .agg #[.int .i64 ((-1)), .int .i64 0, .int .i64 0, .int .i64 ((-1)), .int .i64 1, .int .i64 0, .int .i64 0, .int .i64 0, .int .i64 ((-1))]) (by simp [results, Try.results14, go_sem, wrap_add_l, wrap_add_r, wrap_sub_l, wrap_sub_r, wrap_mul_l, wrap_mul_r, wrap_neg, wrap_wrap, wrap3, *]) rfl ⟨rfl, ?_⟩
  repeat (first | exact Below.refl _ _ | assumption | exact Below.alloc (Below.refl _ _) (Nat.le_refl _) _ | refine Below.setCell ?_ (by first | (simp; done) | (simp; omega) | omega) _ | refine below_drewN ?_ _ | refine Below.alloc ?_ (by first | (simp; done) | (simp; omega) | omega) _ | refine Below.trans ?_ (Below.mono (by assumption) (by first | (simp; done) | (simp; omega) | omega)))

set_option maxHeartbeats 1600000 in
set_option maxRecDepth 100000 in
theorem sxn_9 (k : Int) (w : World) (k1 : 0 ≤ k) (k2 : k ≤ 255) (g2 : k / 6 % 2 = 1) (g3 : k / 12 % 2 = 0) (h1 : k.tmod 6 = 3):
    Calls Try.prog 14 #[.int .u8 k] w fun e w' => e = .returned (.agg #[.int .i64 0, .int .i64 ((-1)), .int .i64 0, .int .i64 ((-1)), .int .i64 0, .int .i64 0, .int .i64 0, .int .i64 0, .int .i64 ((-1))]) ∧ Below w.heap.size w w' := by
  go_enter Try.func14, Try.ntmps14
  go_wp2
  refine wp_loop_rounds 4 ?_
  rw [rounds_succ]
  go_wp2_with fail
  refine (ttimes_e 1 0 0 0 1 0 0 0 1 1 (-1) 0 1 0 0 0 0 1 1 (-1) 0 1 0 0 0 0 1 (by decide +kernel) _).mono ?_
  rintro e w1 ⟨rfl, hb1⟩
  obtain ⟨hc1, hf1⟩ := bcell hb1
  have hz1 := hb1.size
  try simp at hz1
  have z1_0 : w.heap.size < w1.heap.size := by omega
  have z1_1 : w.heap.size + 1 < w1.heap.size := by omega
  have z1_2 : w.heap.size + 1 + 1 < w1.heap.size := by omega
  go_wp2
  rw [rounds_succ]
  go_wp2_with fail
  refine (ttimes_e 1 (-1) 0 1 0 0 0 0 1 1 (-1) 0 1 0 0 0 0 1 0 (-1) 0 1 (-1) 0 0 0 1 (by decide +kernel) _).mono ?_
  rintro e w2 ⟨rfl, hb2⟩
  obtain ⟨hc2, hf2⟩ := bcell hb2
  have hz2 := hb2.size
  try simp at hz2
  have z2_0 : w.heap.size < w2.heap.size := by omega
  have z2_1 : w.heap.size + 1 < w2.heap.size := by omega
  have z2_2 : w.heap.size + 1 + 1 < w2.heap.size := by omega
  go_wp2
  rw [rounds_succ]
  go_wp2_with fail
  refine (ttimes_e 0 (-1) 0 1 (-1) 0 0 0 1 1 (-1) 0 1 0 0 0 0 1 (-1) 0 0 0 (-1) 0 0 0 1 (by decide +kernel) _).mono ?_
  rintro e w3 ⟨rfl, hb3⟩
  obtain ⟨hc3, hf3⟩ := bcell hb3
  have hz3 := hb3.size
  try simp at hz3
  have z3_0 : w.heap.size < w3.heap.size := by omega
  have z3_1 : w.heap.size + 1 < w3.heap.size := by omega
  have z3_2 : w.heap.size + 1 + 1 < w3.heap.size := by omega
  go_wp2
  rw [rounds_succ]
  go_wp2_with fail
  refine (ttimes_e (-1) 0 0 0 (-1) 0 0 0 1 0 1 0 1 0 0 0 0 (-1) 0 (-1) 0 (-1) 0 0 0 0 (-1) (by decide +kernel) _).mono ?_
  rintro e w4 ⟨rfl, hb4⟩
  obtain ⟨hc4, hf4⟩ := bcell hb4
  have hz4 := hb4.size
  try simp at hz4
  have z4_0 : w.heap.size < w4.heap.size := by omega
  have z4_1 : w.heap.size + 1 < w4.heap.size := by omega
  have z4_2 : w.heap.size + 1 + 1 < w4.heap.size := by omega
  go_wp2
  refine bodyPost_ret (v := .agg #[.int .i64 0, .int .i64 ((-1)), .int .i64 0, .int .i64 ((-1)), .int .i64 0, .int .i64 0, .int .i64 0, .int .i64 0, .int .i64 ((-1))]) (by simp [results, Try.results14, go_sem, wrap_add_l, wrap_add_r, wrap_sub_l, wrap_sub_r, wrap_mul_l, wrap_mul_r, wrap_neg, wrap_wrap, wrap3, *]) rfl ⟨rfl, ?_⟩
  repeat (first | exact Below.refl _ _ | assumption | exact Below.alloc (Below.refl _ _) (Nat.le_refl _) _ | refine Below.setCell ?_ (by first | (simp; done) | (simp; omega) | omega) _ | refine below_drewN ?_ _ | refine Below.alloc ?_ (by first | (simp; done) | (simp; omega) | omega) _ | refine Below.trans ?_ (Below.mono (by assumption) (by first | (simp; done) | (simp; omega) | omega)))

set_option maxHeartbeats 1600000 in
set_option maxRecDepth 100000 in
theorem sxn_10 (k : Int) (w : World) (k1 : 0 ≤ k) (k2 : k ≤ 255) (g2 : k / 6 % 2 = 1) (g3 : k / 12 % 2 = 0) (h1 : k.tmod 6 = 4):
    Calls Try.prog 14 #[.int .u8 k] w fun e w' => e = .returned (.agg #[.int .i64 1, .int .i64 ((-1)), .int .i64 0, .int .i64 0, .int .i64 ((-1)), .int .i64 0, .int .i64 0, .int .i64 0, .int .i64 ((-1))]) ∧ Below w.heap.size w w' := by
  go_enter Try.func14, Try.ntmps14
  go_wp2
  refine wp_loop_rounds 5 ?_
  rw [rounds_succ]
  go_wp2_with fail
  refine (ttimes_e 1 0 0 0 1 0 0 0 1 1 (-1) 0 1 0 0 0 0 1 1 (-1) 0 1 0 0 0 0 1 (by decide +kernel) _).mono ?_
  rintro e w1 ⟨rfl, hb1⟩
  obtain ⟨hc1, hf1⟩ := bcell hb1
  have hz1 := hb1.size
  try simp at hz1
  have z1_0 : w.heap.size < w1.heap.size := by omega
  have z1_1 : w.heap.size + 1 < w1.heap.size := by omega
  have z1_2 : w.heap.size + 1 + 1 < w1.heap.size := by omega
  go_wp2
  rw [rounds_succ]
  go_wp2_with fail
  refine (ttimes_e 1 (-1) 0 1 0 0 0 0 1 1 (-1) 0 1 0 0 0 0 1 0 (-1) 0 1 (-1) 0 0 0 1 (by decide +kernel) _).mono ?_
  rintro e w2 ⟨rfl, hb2⟩
  obtain ⟨hc2, hf2⟩ := bcell hb2
  have hz2 := hb2.size
  try simp at hz2
  have z2_0 : w.heap.size < w2.heap.size := by omega
  have z2_1 : w.heap.size + 1 < w2.heap.size := by omega
  have z2_2 : w.heap.size + 1 + 1 < w2.heap.size := by omega
  go_wp2
  rw [rounds_succ]
  go_wp2_with fail
  refine (ttimes_e 0 (-1) 0 1 (-1) 0 0 0 1 1 (-1) 0 1 0 0 0 0 1 (-1) 0 0 0 (-1) 0 0 0 1 (by decide +kernel) _).mono ?_
  rintro e w3 ⟨rfl, hb3⟩
  obtain ⟨hc3, hf3⟩ := bcell hb3
  have hz3 := hb3.size
  try simp at hz3
  have z3_0 : w.heap.size < w3.heap.size := by omega
  have z3_1 : w.heap.size + 1 < w3.heap.size := by omega
  have z3_2 : w.heap.size + 1 + 1 < w3.heap.size := by omega
  go_wp2
  rw [rounds_succ]
  go_wp2_with fail
  refine (ttimes_e (-1) 0 0 0 (-1) 0 0 0 1 1 (-1) 0 1 0 0 0 0 1 (-1) 1 0 (-1) 0 0 0 0 1 (by decide +kernel) _).mono ?_
  rintro e w4 ⟨rfl, hb4⟩
  obtain ⟨hc4, hf4⟩ := bcell hb4
  have hz4 := hb4.size
  try simp at hz4
  have z4_0 : w.heap.size < w4.heap.size := by omega
  have z4_1 : w.heap.size + 1 < w4.heap.size := by omega
  have z4_2 : w.heap.size + 1 + 1 < w4.heap.size := by omega
  go_wp2
  rw [rounds_succ]
  go_wp2_with fail
  refine (ttimes_e (-1) 1 0 (-1) 0 0 0 0 1 0 1 0 1 0 0 0 0 (-1) 1 (-1) 0 0 (-1) 0 0 0 (-1) (by decide +kernel) _).mono ?_
  rintro e w5 ⟨rfl, hb5⟩
  obtain ⟨hc5, hf5⟩ := bcell hb5
  have hz5 := hb5.size
  try simp at hz5
  have z5_0 : w.heap.size < w5.heap.size := by omega
  have z5_1 : w.heap.size + 1 < w5.heap.size := by omega
  have z5_2 : w.heap.size + 1 + 1 < w5.heap.size := by omega
  go_wp2
  refine bodyPost_ret (v := .agg #[.int .i64 1, .int .i64 ((-1)), .int .i64 0, .int .i64 0, .int .i64 ((-1)), .int .i64 0, .int .i64 0, .int .i64 0, .int .i64 ((-1))]) (by simp [results, Try.results14, go_sem, wrap_add_l, wrap_add_r, wrap_sub_l, wrap_sub_r, wrap_mul_l, wrap_mul_r, wrap_neg, wrap_wrap, wrap3, *]) rfl ⟨rfl, ?_⟩
  repeat (first | exact Below.refl _ _ | assumption | exact Below.alloc (Below.refl _ _) (Nat.le_refl _) _ | refine Below.setCell ?_ (by first | (simp; done) | (simp; omega) | omega) _ | refine below_drewN ?_ _ | refine Below.alloc ?_ (by first | (simp; done) | (simp; omega) | omega) _ | refine Below.trans ?_ (Below.mono (by assumption) (by first | (simp; done) | (simp; omega) | omega)))

set_option maxHeartbeats 1600000 in
set_option maxRecDepth 100000 in
theorem sxn_11 (k : Int) (w : World) (k1 : 0 ≤ k) (k2 : k ≤ 255) (g2 : k / 6 % 2 = 1) (g3 : k / 12 % 2 = 0) (h1 : k.tmod 6 = 5):
    Calls Try.prog 14 #[.int .u8 k] w fun e w' => e = .returned (.agg #[.int .i64 1, .int .i64 0, .int .i64 0, .int .i64 1, .int .i64 ((-1)), .int .i64 0, .int .i64 0, .int .i64 0, .int .i64 ((-1))]) ∧ Below w.heap.size w w' := by
  go_enter Try.func14, Try.ntmps14
  go_wp2
  refine wp_loop_rounds 6 ?_
  rw [rounds_succ]
  go_wp2_with fail
  refine (ttimes_e 1 0 0 0 1 0 0 0 1 1 (-1) 0 1 0 0 0 0 1 1 (-1) 0 1 0 0 0 0 1 (by decide +kernel) _).mono ?_
  rintro e w1 ⟨rfl, hb1⟩
  obtain ⟨hc1, hf1⟩ := bcell hb1
  have hz1 := hb1.size
  try simp at hz1
  have z1_0 : w.heap.size < w1.heap.size := by omega
  have z1_1 : w.heap.size + 1 < w1.heap.size := by omega
  have z1_2 : w.heap.size + 1 + 1 < w1.heap.size := by omega
  go_wp2
  rw [rounds_succ]
  go_wp2_with fail
  refine (ttimes_e 1 (-1) 0 1 0 0 0 0 1 1 (-1) 0 1 0 0 0 0 1 0 (-1) 0 1 (-1) 0 0 0 1 (by decide +kernel) _).mono ?_
  rintro e w2 ⟨rfl, hb2⟩
  obtain ⟨hc2, hf2⟩ := bcell hb2
  have hz2 := hb2.size
  try simp at hz2
  have z2_0 : w.heap.size < w2.heap.size := by omega
  have z2_1 : w.heap.size + 1 < w2.heap.size := by omega
  have z2_2 : w.heap.size + 1 + 1 < w2.heap.size := by omega
  go_wp2
  rw [rounds_succ]
  go_wp2_with fail
  refine (ttimes_e 0 (-1) 0 1 (-1) 0 0 0 1 1 (-1) 0 1 0 0 0 0 1 (-1) 0 0 0 (-1) 0 0 0 1 (by decide +kernel) _).mono ?_
  rintro e w3 ⟨rfl, hb3⟩
  obtain ⟨hc3, hf3⟩ := bcell hb3
  have hz3 := hb3.size
  try simp at hz3
  have z3_0 : w.heap.size < w3.heap.size := by omega
  have z3_1 : w.heap.size + 1 < w3.heap.size := by omega
  have z3_2 : w.heap.size + 1 + 1 < w3.heap.size := by omega
  go_wp2
  rw [rounds_succ]
  go_wp2_with fail
  refine (ttimes_e (-1) 0 0 0 (-1) 0 0 0 1 1 (-1) 0 1 0 0 0 0 1 (-1) 1 0 (-1) 0 0 0 0 1 (by decide +kernel) _).mono ?_
  rintro e w4 ⟨rfl, hb4⟩
  obtain ⟨hc4, hf4⟩ := bcell hb4
  have hz4 := hb4.size
  try simp at hz4
  have z4_0 : w.heap.size < w4.heap.size := by omega
  have z4_1 : w.heap.size + 1 < w4.heap.size := by omega
  have z4_2 : w.heap.size + 1 + 1 < w4.heap.size := by omega
  go_wp2
  rw [rounds_succ]
  go_wp2_with fail
  refine (ttimes_e (-1) 1 0 (-1) 0 0 0 0 1 1 (-1) 0 1 0 0 0 0 1 0 1 0 (-1) 1 0 0 0 1 (by decide +kernel) _).mono ?_
  rintro e w5 ⟨rfl, hb5⟩
  obtain ⟨hc5, hf5⟩ := bcell hb5
  have hz5 := hb5.size
  try simp at hz5
  have z5_0 : w.heap.size < w5.heap.size := by omega
  have z5_1 : w.heap.size + 1 < w5.heap.size := by omega
  have z5_2 : w.heap.size + 1 + 1 < w5.heap.size := by omega
  go_wp2
  rw [rounds_succ]
  go_wp2_with fail
  refine (ttimes_e 0 1 0 (-1) 1 0 0 0 1 0 1 0 1 0 0 0 0 (-1) 1 0 0 1 (-1) 0 0 0 (-1) (by decide +kernel) _).mono ?_
  rintro e w6 ⟨rfl, hb6⟩
  obtain ⟨hc6, hf6⟩ := bcell hb6
  have hz6 := hb6.size
  try simp at hz6
  have z6_0 : w.heap.size < w6.heap.size := by omega
  have z6_1 : w.heap.size + 1 < w6.heap.size := by omega
  have z6_2 : w.heap.size + 1 + 1 < w6.heap.size := by omega
  go_wp2
  refine bodyPost_ret (v := .agg #[.int .i64 1, .int .i64 0, .int .i64 0, .int .i64 1, .int .i64 ((-1)), .int .i64 0, .int .i64 0, .int .i64 0, .int .i64 ((-1))]) (by simp [results, Try.results14, go_sem, wrap_add_l, wrap_add_r, wrap_sub_l, wrap_sub_r, wrap_mul_l, wrap_mul_r, wrap_neg, wrap_wrap, wrap3, *]) rfl ⟨rfl, ?_⟩
  repeat (first | exact Below.refl _ _ | assumption | exact Below.alloc (Below.refl _ _) (Nat.le_refl _) _ | refine Below.setCell ?_ (by first | (simp; done) | (simp; omega) | omega) _ | refine below_drewN ?_ _ | refine Below.alloc ?_ (by first | (simp; done) | (simp; omega) | omega) _ | refine Below.trans ?_ (Below.mono (by assumption) (by first | (simp; done) | (simp; omega) | omega)))

set_option maxHeartbeats 1600000 in
set_option maxRecDepth 100000 in
theorem sxn_12 (k : Int) (w : World) (k1 : 0 ≤ k) (k2 : k ≤ 255) (g2 : k / 6 % 2 = 0) (g3 : k / 12 % 2 = 1) (h1 : k.tmod 6 = 0):
    Calls Try.prog 14 #[.int .u8 k] w fun e w' => e = .returned (.agg #[.int .i64 ((-1)), .int .i64 0, .int .i64 0, .int .i64 0, .int .i64 ((-1)), .int .i64 0, .int .i64 0, .int .i64 0, .int .i64 ((-1))]) ∧ Below w.heap.size w w' := by
  go_enter Try.func14, Try.ntmps14
  go_wp2
  refine wp_loop_rounds 1 ?_
  rw [rounds_succ]
  go_wp2_with fail
  refine (ttimes_e 1 0 0 0 1 0 0 0 1 (-1) 0 0 0 (-1) 0 0 0 (-1) (-1) 0 0 0 (-1) 0 0 0 (-1) (by decide +kernel) _).mono ?_
  rintro e w1 ⟨rfl, hb1⟩
  obtain ⟨hc1, hf1⟩ := bcell hb1
  have hz1 := hb1.size
  try simp at hz1
  have z1_0 : w.heap.size < w1.heap.size := by omega
  have z1_1 : w.heap.size + 1 < w1.heap.size := by omega
  have z1_2 : w.heap.size + 1 + 1 < w1.heap.size := by omega
  go_wp2
  refine bodyPost_ret (v := .agg #[.int .i64 ((-1)), .int .i64 0, .int .i64 0, .int .i64 0, .int .i64 ((-1)), .int .i64 0, .int .i64 0, .int .i64 0, .int .i64 ((-1))]) (by simp [results, Try.results14, go_sem, wrap_add_l, wrap_add_r, wrap_sub_l, wrap_sub_r, wrap_mul_l, wrap_mul_r, wrap_neg, wrap_wrap, wrap3, *]) rfl ⟨rfl, ?_⟩
  repeat (first | exact Below.refl _ _ | assumption | exact Below.alloc (Below.refl _ _) (Nat.le_refl _) _ | refine Below.setCell ?_ (by first | (simp; done) | (simp; omega) | omega) _ | refine below_drewN ?_ _ | refine Below.alloc ?_ (by first | (simp; done) | (simp; omega) | omega) _ | refine Below.trans ?_ (Below.mono (by assumption) (by first | (simp; done) | (simp; omega) | omega)))

set_option maxHeartbeats 1600000 in
set_option maxRecDepth 100000 in
theorem sxn_13 (k : Int) (w : World) (k1 : 0 ≤ k) (k2 : k ≤ 255) (g2 : k / 6 % 2 = 0) (g3 : k / 12 % 2 = 1) (h1 : k.tmod 6 = 1):
    Calls Try.prog 14 #[.int .u8 k] w fun e w' => e = .returned (.agg #[.int .i64 ((-1)), .int .i64 1, .int .i64 0, .int .i64 ((-1)), .int .i64 0, .int .i64 0, .int .i64 0, .int .i64 0, .int .i64 ((-1))]) ∧ Below w.heap.size w w' := by
  go_enter Try.func14, Try.ntmps14
  go_wp2
  refine wp_loop_rounds 2 ?_
  rw [rounds_succ]
  go_wp2_with fail
  refine (ttimes_e 1 0 0 0 1 0 0 0 1 1 (-1) 0 1 0 0 0 0 1 1 (-1) 0 1 0 0 0 0 1 (by decide +kernel) _).mono ?_
  rintro e w1 ⟨rfl, hb1⟩
  obtain ⟨hc1, hf1⟩ := bcell hb1
  have hz1 := hb1.size
  try simp at hz1
  have z1_0 : w.heap.size < w1.heap.size := by omega
  have z1_1 : w.heap.size + 1 < w1.heap.size := by omega
  have z1_2 : w.heap.size + 1 + 1 < w1.heap.size := by omega
  go_wp2
  rw [rounds_succ]
  go_wp2_with fail
  refine (ttimes_e 1 (-1) 0 1 0 0 0 0 1 (-1) 0 0 0 (-1) 0 0 0 (-1) (-1) 1 0 (-1) 0 0 0 0 (-1) (by decide +kernel) _).mono ?_
  rintro e w2 ⟨rfl, hb2⟩
  obtain ⟨hc2, hf2⟩ := bcell hb2
  have hz2 := hb2.size
  try simp at hz2
  have z2_0 : w.heap.size < w2.heap.size := by omega
  have z2_1 : w.heap.size + 1 < w2.heap.size := by omega
  have z2_2 : w.heap.size + 1 + 1 < w2.heap.size := by omega
  go_wp2
  refine bodyPost_ret (v := .agg #[.int .i64 ((-1)), .int .i64 1, .int .i64 0, .int .i64 ((-1)), .int .i64 0, .int .i64 0, .int .i64 0, .int .i64 0, .int .i64 ((-1))]) (by simp [results, Try.results14, go_sem, wrap_add_l, wrap_add_r, wrap_sub_l, wrap_sub_r, wrap_mul_l, wrap_mul_r, wrap_neg, wrap_wrap, wrap3, *]) rfl ⟨rfl, ?_⟩
  repeat (first | exact Below.refl _ _ | assumption | exact Below.alloc (Below.refl _ _) (Nat.le_refl _) _ | refine Below.setCell ?_ (by first | (simp; done) | (simp; omega) | omega) _ | refine below_drewN ?_ _ | refine Below.alloc ?_ (by first | (simp; done) | (simp; omega) | omega) _ | refine Below.trans ?_ (Below.mono (by assumption) (by first | (simp; done) | (simp; omega) | omega)))

set_option maxHeartbeats 1600000 in
set_option maxRecDepth 100000 in
theorem sxn_14 (k : Int) (w : World) (k1 : 0 ≤ k) (k2 : k ≤ 255) (g2 : k / 6 % 2 = 0) (g3 : k / 12 % 2 = 1) (h1 : k.tmod 6 = 2):
    Calls Try.prog 14 #[.int .u8 k] w fun e w' => e = .returned (.agg #[.int .i64 0, .int .i64 1, .int .i64 0, .int .i64 ((-1)), .int .i64 1, .int .i64 0, .int .i64 0, .int .i64 0, .int .i64 ((-1))]) ∧ Below w.heap.size w w' := by
  go_enter Try.func14, Try.ntmps14
  go_wp2
  refine wp_loop_rounds 3 ?_
  rw [rounds_succ]
  go_wp2_with fail
  refine (ttimes_e 1 0 0 0 1 0 0 0 1 1 (-1) 0 1 0 0 0 0 1 1 (-1) 0 1 0 0 0 0 1 (by decide +kernel) _).mono ?_
  rintro e w1 ⟨rfl, hb1⟩
  obtain ⟨hc1, hf1⟩ := bcell hb1
  have hz1 := hb1.size
  try simp at hz1
  have z1_0 : w.heap.size < w1.heap.size := by omega
  have z1_1 : w.heap.size + 1 < w1.heap.size := by omega
  have z1_2 : w.heap.size + 1 + 1 < w1.heap.size := by omega
  go_wp2
  rw [rounds_succ]
  go_wp2_with fail
  refine (ttimes_e 1 (-1) 0 1 0 0 0 0 1 1 (-1) 0 1 0 0 0 0 1 0 (-1) 0 1 (-1) 0 0 0 1 (by decide +kernel) _).mono ?_
  rintro e w2 ⟨rfl, hb2⟩
  obtain ⟨hc2, hf2⟩ := bcell hb2
  have hz2 := hb2.size
  try simp at hz2
  have z2_0 : w.heap.size < w2.heap.size := by omega
  have z2_1 : w.heap.size + 1 < w2.heap.size := by omega
  have z2_2 : w.heap.size + 1 + 1 < w2.heap.size := by omega
  go_wp2
  rw [rounds_succ]
  go_wp2_with fail
  refine (ttimes_e 0 (-1) 0 1 (-1) 0 0 0 1 (-1) 0 0 0 (-1) 0 0 0 (-1) 0 1 0 (-1) 1 0 0 0 (-1) (by decide +kernel) _).mono ?_
  rintro e w3 ⟨rfl, hb3⟩
  obtain ⟨hc3, hf3⟩ := bcell hb3
  have hz3 := hb3.size
  try simp at hz3
  have z3_0 : w.heap.size < w3.heap.size := by omega
  have z3_1 : w.heap.size + 1 < w3.heap.size := by omega
  have z3_2 : w.heap.size + 1 + 1 < w3.heap.size := by omega
  go_wp2
  refine bodyPost_ret (v := .agg #[.int .i64 0, .int .i64 1, .int .i64 0, .int .i64 ((-1)), .int .i64 1, .int .i64 0, .int .i64 0, .int .i64 0, .int .i64 ((-1))]) (by simp [results, Try.results14, go_sem, wrap_add_l, wrap_add_r, wrap_sub_l, wrap_sub_r, wrap_mul_l, wrap_mul_r, wrap_neg, wrap_wrap, wrap3, *]) rfl ⟨rfl, ?_⟩
  repeat (first | exact Below.refl _ _ | assumption | exact Below.alloc (Below.refl _ _) (Nat.le_refl _) _ | refine Below.setCell ?_ (by first | (simp; done) | (simp; omega) | omega) _ | refine below_drewN ?_ _ | refine Below.alloc ?_ (by first | (simp; done) | (simp; omega) | omega) _ | refine Below.trans ?_ (Below.mono (by assumption) (by first | (simp; done) | (simp; omega) | omega)))

set_option maxHeartbeats 1600000 in
set_option maxRecDepth 100000 in
theorem sxn_15 (k : Int) (w : World) (k1 : 0 ≤ k) (k2 : k ≤ 255) (g2 : k / 6 % 2 = 0) (g3 : k / 12 % 2 = 1) (h1 : k.tmod 6 = 3):
    Calls Try.prog 14 #[.int .u8 k] w fun e w' => e = .returned (.agg #[.int .i64 1, .int .i64 0, .int .i64 0, .int .i64 0, .int .i64 1, .int .i64 0, .int .i64 0, .int .i64 0, .int .i64 ((-1))]) ∧ Below w.heap.size w w' := by
  go_enter Try.func14, Try.ntmps14
  go_wp2
  refine wp_loop_rounds 4 ?_
  rw [rounds_succ]
  go_wp2_with fail
  refine (ttimes_e 1 0 0 0 1 0 0 0 1 1 (-1) 0 1 0 0 0 0 1 1 (-1) 0 1 0 0 0 0 1 (by decide +kernel) _).mono ?_
  rintro e w1 ⟨rfl, hb1⟩
  obtain ⟨hc1, hf1⟩ := bcell hb1
  have hz1 := hb1.size
  try simp at hz1
  have z1_0 : w.heap.size < w1.heap.size := by omega
  have z1_1 : w.heap.size + 1 < w1.heap.size := by omega
  have z1_2 : w.heap.size + 1 + 1 < w1.heap.size := by omega
  go_wp2
  rw [rounds_succ]
  go_wp2_with fail
  refine (ttimes_e 1 (-1) 0 1 0 0 0 0 1 1 (-1) 0 1 0 0 0 0 1 0 (-1) 0 1 (-1) 0 0 0 1 (by decide +kernel) _).mono ?_
  rintro e w2 ⟨rfl, hb2⟩
  obtain ⟨hc2, hf2⟩ := bcell hb2
  have hz2 := hb2.size
  try simp at hz2
  have z2_0 : w.heap.size < w2.heap.size := by omega
  have z2_1 : w.heap.size + 1 < w2.heap.size := by omega
  have z2_2 : w.heap.size + 1 + 1 < w2.heap.size := by omega
  go_wp2
  rw [rounds_succ]
  go_wp2_with fail
  refine (ttimes_e 0 (-1) 0 1 (-1) 0 0 0 1 1 (-1) 0 1 0 0 0 0 1 (-1) 0 0 0 (-1) 0 0 0 1 (by decide +kernel) _).mono ?_
  rintro e w3 ⟨rfl, hb3⟩
  obtain ⟨hc3, hf3⟩ := bcell hb3
  have hz3 := hb3.size
  try simp at hz3
  have z3_0 : w.heap.size < w3.heap.size := by omega
  have z3_1 : w.heap.size + 1 < w3.heap.size := by omega
  have z3_2 : w.heap.size + 1 + 1 < w3.heap.size := by omega
  go_wp2
  rw [rounds_succ]
  go_wp2_with fail
  refine (ttimes_e (-1) 0 0 0 (-1) 0 0 0 1 (-1) 0 0 0 (-1) 0 0 0 (-1) 1 0 0 0 1 0 0 0 (-1) (by decide +kernel) _).mono ?_
  rintro e w4 ⟨rfl, hb4⟩
  obtain ⟨hc4, hf4⟩ := bcell hb4
  have hz4 := hb4.size
  try simp at hz4
  have z4_0 : w.heap.size < w4.heap.size := by omega
  have z4_1 : w.heap.size + 1 < w4.heap.size := by omega
  have z4_2 : w.heap.size + 1 + 1 < w4.heap.size := by omega
  go_wp2
  refine bodyPost_ret (v := .agg #[.int .i64 1, .int .i64 0, .int .i64 0, .int .i64 0, .int .i64 1, .int .i64 0, .int .i64 0, .int .i64 0, .int .i64 ((-1))]) (by simp [results, Try.results14, go_sem, wrap_add_l, wrap_add_r, wrap_sub_l, wrap_sub_r, wrap_mul_l, wrap_mul_r, wrap_neg, wrap_wrap, wrap3, *]) rfl ⟨rfl, ?_⟩
  repeat (first | exact Below.refl _ _ | assumption | exact Below.alloc (Below.refl _ _) (Nat.le_refl _) _ | refine Below.setCell ?_ (by first | (simp; done) | (simp; omega) | omega) _ | refine below_drewN ?_ _ | refine Below.alloc ?_ (by first | (simp; done) | (simp; omega) | omega) _ | refine Below.trans ?_ (Below.mono (by assumption) (by first | (simp; done) | (simp; omega) | omega)))

end Go.Proofs.Ytjghhgapacnpeaa
