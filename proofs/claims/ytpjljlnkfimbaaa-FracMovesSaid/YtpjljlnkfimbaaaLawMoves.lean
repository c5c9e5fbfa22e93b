/-
  The law FracMoves, walked: it returns true.
-/
import Derived.Test.YtpjljlnkfimbaaaFracI
namespace Go.Proofs.Ytpjljlnkfimbaaa
open Go.RowKit
attribute [local irreducible] World.setCell

set_option maxHeartbeats 800000 in
theorem moves_f1 (m x y z m' x' y' z' t0 t1 t2 : Int) (w : World) (h : formB m x y z = false):
    Calls Try.prog 7 #[.agg #[.int .i64 m, .int .i64 x, .int .i64 y, .int .i64 z], .agg #[.int .i64 m', .int .i64 x', .int .i64 y', .int .i64 z'], .agg #[.int .i64 t0, .int .i64 t1, .int .i64 t2]] w fun e w' => e = .returned (.bool true) ∧ Below w.heap.size w w' := by
  have H := Lib.hid h; clear h
  go_enter Try.func7, Try.ntmps7
  go_wp2_with fail
  refine (awake_any _).mono ?_
  rintro e w1 ⟨rfl, hb1⟩
  obtain ⟨hc1, hf1⟩ := bcell hb1
  have hz1 := hb1.size
  try simp at hz1
  have z1_0 : w.heap.size < w1.heap.size := by omega
  have z1_1 : w.heap.size + 1 < w1.heap.size := by omega
  have z1_2 : w.heap.size + 1 + 1 < w1.heap.size := by omega
  go_wp2_with fail
  refine (shift_f _ _ _ _ _ _ _ _ H.out).mono ?_
  rintro e w2 ⟨rfl, hb2⟩
  obtain ⟨hc2, hf2⟩ := bcell hb2
  have hz2 := hb2.size
  try simp at hz2
  have z2_0 : w.heap.size < w2.heap.size := by omega
  have z2_1 : w.heap.size + 1 < w2.heap.size := by omega
  have z2_2 : w.heap.size + 1 + 1 < w2.heap.size := by omega
  go_wp2_with fail
  refine (dshift_f _ _ _ _ _ _ _ _ H.out).mono ?_
  rintro e w3 ⟨rfl, hb3⟩
  obtain ⟨hc3, hf3⟩ := bcell hb3
  have hz3 := hb3.size
  try simp at hz3
  have z3_0 : w.heap.size < w3.heap.size := by omega
  have z3_1 : w.heap.size + 1 < w3.heap.size := by omega
  have z3_2 : w.heap.size + 1 + 1 < w3.heap.size := by omega
  have z3_3 : w2.heap.size < w3.heap.size := by omega
  go_wp2_with fail
  refine (minus_f1 _ _ _ _ _ _ _ _ _ H.out).mono ?_
  rintro e w4 ⟨rfl, hb4⟩
  obtain ⟨hc4, hf4⟩ := bcell hb4
  have hz4 := hb4.size
  try simp at hz4
  have z4_0 : w.heap.size < w4.heap.size := by omega
  have z4_1 : w.heap.size + 1 < w4.heap.size := by omega
  have z4_2 : w.heap.size + 1 + 1 < w4.heap.size := by omega
  have z4_3 : w2.heap.size < w4.heap.size := by omega
  have z4_4 : w3.heap.size < w4.heap.size := by omega
  go_wp2_with fail
  refine (dminus_f1 _ _ _ _ _ _ _ _ _ H.out).mono ?_
  rintro e w5 ⟨rfl, hb5⟩
  obtain ⟨hc5, hf5⟩ := bcell hb5
  have hz5 := hb5.size
  try simp at hz5
  have z5_0 : w.heap.size < w5.heap.size := by omega
  have z5_1 : w.heap.size + 1 < w5.heap.size := by omega
  have z5_2 : w.heap.size + 1 + 1 < w5.heap.size := by omega
  have z5_3 : w2.heap.size < w5.heap.size := by omega
  have z5_4 : w3.heap.size < w5.heap.size := by omega
  go_wp2_with fail
  refine (opp_f _ _ _ _ _ H.out).mono ?_
  rintro e w6 ⟨rfl, hb6⟩
  obtain ⟨hc6, hf6⟩ := bcell hb6
  have hz6 := hb6.size
  try simp at hz6
  have z6_0 : w.heap.size < w6.heap.size := by omega
  have z6_1 : w.heap.size + 1 < w6.heap.size := by omega
  have z6_2 : w.heap.size + 1 + 1 < w6.heap.size := by omega
  have z6_3 : w2.heap.size < w6.heap.size := by omega
  have z6_4 : w3.heap.size < w6.heap.size := by omega
  go_wp2_with fail
  refine (dopp_f _ _ _ _ _ H.out).mono ?_
  rintro e w7 ⟨rfl, hb7⟩
  obtain ⟨hc7, hf7⟩ := bcell hb7
  have hz7 := hb7.size
  try simp at hz7
  have z7_0 : w.heap.size < w7.heap.size := by omega
  have z7_1 : w.heap.size + 1 < w7.heap.size := by omega
  have z7_2 : w.heap.size + 1 + 1 < w7.heap.size := by omega
  have z7_3 : w2.heap.size < w7.heap.size := by omega
  have z7_4 : w3.heap.size < w7.heap.size := by omega
  go_wp2_with fail
  refine (order_f1 _ _ _ _ _ _ _ _ _ H.out).mono ?_
  rintro e w8 ⟨rfl, hb8⟩
  obtain ⟨hc8, hf8⟩ := bcell hb8
  have hz8 := hb8.size
  try simp at hz8
  have z8_0 : w.heap.size < w8.heap.size := by omega
  have z8_1 : w.heap.size + 1 < w8.heap.size := by omega
  have z8_2 : w.heap.size + 1 + 1 < w8.heap.size := by omega
  have z8_3 : w2.heap.size < w8.heap.size := by omega
  have z8_4 : w3.heap.size < w8.heap.size := by omega
  go_wp2_with fail
  refine (dorder_f1 _ _ _ _ _ _ _ _ _ H.out).mono ?_
  rintro e w9 ⟨rfl, hb9⟩
  obtain ⟨hc9, hf9⟩ := bcell hb9
  have hz9 := hb9.size
  try simp at hz9
  have z9_0 : w.heap.size < w9.heap.size := by omega
  have z9_1 : w.heap.size + 1 < w9.heap.size := by omega
  have z9_2 : w.heap.size + 1 + 1 < w9.heap.size := by omega
  have z9_3 : w2.heap.size < w9.heap.size := by omega
  have z9_4 : w3.heap.size < w9.heap.size := by omega
  go_wp2
  go_ret
  refine ⟨rfl, ?_⟩
  repeat (first | exact Below.refl _ _ | assumption | exact Below.alloc (Below.refl _ _) (Nat.le_refl _) _ | refine Below.setCell ?_ (by first | (simp; done) | (simp; omega) | omega) _ | refine below_drewN ?_ _ | refine Below.alloc ?_ (by first | (simp; done) | (simp; omega) | omega) _ | refine Below.trans ?_ (Below.mono (by assumption) (by first | (simp; done) | (simp; omega) | omega)))

set_option maxHeartbeats 800000 in
theorem moves_f2 (m x y z m' x' y' z' t0 t1 t2 : Int) (w : World) (h : formB m x y z = true) (h' : formB m' x' y' z' = false):
    Calls Try.prog 7 #[.agg #[.int .i64 m, .int .i64 x, .int .i64 y, .int .i64 z], .agg #[.int .i64 m', .int .i64 x', .int .i64 y', .int .i64 z'], .agg #[.int .i64 t0, .int .i64 t1, .int .i64 t2]] w fun e w' => e = .returned (.bool true) ∧ Below w.heap.size w w' := by
  have H := Lib.hid h; clear h; have G := Lib.hid h'; clear h'
  go_enter Try.func7, Try.ntmps7
  go_wp2_with fail
  refine (awake_any _).mono ?_
  rintro e w1 ⟨rfl, hb1⟩
  obtain ⟨hc1, hf1⟩ := bcell hb1
  have hz1 := hb1.size
  try simp at hz1
  have z1_0 : w.heap.size < w1.heap.size := by omega
  have z1_1 : w.heap.size + 1 < w1.heap.size := by omega
  have z1_2 : w.heap.size + 1 + 1 < w1.heap.size := by omega
  go_wp2_with fail
  refine (shift_t _ _ _ _ _ _ _ _ H.out).mono ?_
  rintro e w2 ⟨rfl, hb2⟩
  obtain ⟨hc2, hf2⟩ := bcell hb2
  have hz2 := hb2.size
  try simp at hz2
  have z2_0 : w.heap.size < w2.heap.size := by omega
  have z2_1 : w.heap.size + 1 < w2.heap.size := by omega
  have z2_2 : w.heap.size + 1 + 1 < w2.heap.size := by omega
  go_wp2_with fail
  refine (dshift_t _ _ _ _ _ _ _ _ H.out).mono ?_
  rintro e w3 ⟨rfl, hb3⟩
  obtain ⟨hc3, hf3⟩ := bcell hb3
  have hz3 := hb3.size
  try simp at hz3
  have z3_0 : w.heap.size < w3.heap.size := by omega
  have z3_1 : w.heap.size + 1 < w3.heap.size := by omega
  have z3_2 : w.heap.size + 1 + 1 < w3.heap.size := by omega
  have z3_3 : w2.heap.size < w3.heap.size := by omega
  go_wp2_with fail
  refine (minus_f2 _ _ _ _ _ _ _ _ _ H.out G.out).mono ?_
  rintro e w4 ⟨rfl, hb4⟩
  obtain ⟨hc4, hf4⟩ := bcell hb4
  have hz4 := hb4.size
  try simp at hz4
  have z4_0 : w.heap.size < w4.heap.size := by omega
  have z4_1 : w.heap.size + 1 < w4.heap.size := by omega
  have z4_2 : w.heap.size + 1 + 1 < w4.heap.size := by omega
  have z4_3 : w2.heap.size < w4.heap.size := by omega
  have z4_4 : w3.heap.size < w4.heap.size := by omega
  go_wp2_with fail
  refine (dminus_f2 _ _ _ _ _ _ _ _ _ H.out G.out).mono ?_
  rintro e w5 ⟨rfl, hb5⟩
  obtain ⟨hc5, hf5⟩ := bcell hb5
  have hz5 := hb5.size
  try simp at hz5
  have z5_0 : w.heap.size < w5.heap.size := by omega
  have z5_1 : w.heap.size + 1 < w5.heap.size := by omega
  have z5_2 : w.heap.size + 1 + 1 < w5.heap.size := by omega
  have z5_3 : w2.heap.size < w5.heap.size := by omega
  have z5_4 : w3.heap.size < w5.heap.size := by omega
  go_wp2_with fail
  refine (opp_t _ _ _ _ _ H.out).mono ?_
  rintro e w6 ⟨rfl, hb6⟩
  obtain ⟨hc6, hf6⟩ := bcell hb6
  have hz6 := hb6.size
  try simp at hz6
  have z6_0 : w.heap.size < w6.heap.size := by omega
  have z6_1 : w.heap.size + 1 < w6.heap.size := by omega
  have z6_2 : w.heap.size + 1 + 1 < w6.heap.size := by omega
  have z6_3 : w2.heap.size < w6.heap.size := by omega
  have z6_4 : w3.heap.size < w6.heap.size := by omega
  go_wp2_with fail
  refine (dopp_t _ _ _ _ _ H.out).mono ?_
  rintro e w7 ⟨rfl, hb7⟩
  obtain ⟨hc7, hf7⟩ := bcell hb7
  have hz7 := hb7.size
  try simp at hz7
  have z7_0 : w.heap.size < w7.heap.size := by omega
  have z7_1 : w.heap.size + 1 < w7.heap.size := by omega
  have z7_2 : w.heap.size + 1 + 1 < w7.heap.size := by omega
  have z7_3 : w2.heap.size < w7.heap.size := by omega
  have z7_4 : w3.heap.size < w7.heap.size := by omega
  go_wp2_with fail
  refine (order_f2 _ _ _ _ _ _ _ _ _ H.out G.out).mono ?_
  rintro e w8 ⟨rfl, hb8⟩
  obtain ⟨hc8, hf8⟩ := bcell hb8
  have hz8 := hb8.size
  try simp at hz8
  have z8_0 : w.heap.size < w8.heap.size := by omega
  have z8_1 : w.heap.size + 1 < w8.heap.size := by omega
  have z8_2 : w.heap.size + 1 + 1 < w8.heap.size := by omega
  have z8_3 : w2.heap.size < w8.heap.size := by omega
  have z8_4 : w3.heap.size < w8.heap.size := by omega
  go_wp2_with fail
  refine (dorder_f2 _ _ _ _ _ _ _ _ _ H.out G.out).mono ?_
  rintro e w9 ⟨rfl, hb9⟩
  obtain ⟨hc9, hf9⟩ := bcell hb9
  have hz9 := hb9.size
  try simp at hz9
  have z9_0 : w.heap.size < w9.heap.size := by omega
  have z9_1 : w.heap.size + 1 < w9.heap.size := by omega
  have z9_2 : w.heap.size + 1 + 1 < w9.heap.size := by omega
  have z9_3 : w2.heap.size < w9.heap.size := by omega
  have z9_4 : w3.heap.size < w9.heap.size := by omega
  go_wp2
  go_ret
  refine ⟨rfl, ?_⟩
  repeat (first | exact Below.refl _ _ | assumption | exact Below.alloc (Below.refl _ _) (Nat.le_refl _) _ | refine Below.setCell ?_ (by first | (simp; done) | (simp; omega) | omega) _ | refine below_drewN ?_ _ | refine Below.alloc ?_ (by first | (simp; done) | (simp; omega) | omega) _ | refine Below.trans ?_ (Below.mono (by assumption) (by first | (simp; done) | (simp; omega) | omega)))

set_option maxHeartbeats 800000 in
theorem moves_u (m x y z m' x' y' z' t0 t1 t2 : Int) (w : World) (h : formB m x y z = true) (h' : formB m' x' y' z' = true) (hne : m ≠ m'):
    Calls Try.prog 7 #[.agg #[.int .i64 m, .int .i64 x, .int .i64 y, .int .i64 z], .agg #[.int .i64 m', .int .i64 x', .int .i64 y', .int .i64 z'], .agg #[.int .i64 t0, .int .i64 t1, .int .i64 t2]] w fun e w' => e = .returned (.bool true) ∧ Below w.heap.size w w' := by
  have H := Lib.hid h; clear h; have G := Lib.hid h'; clear h'; have N := Lib.hid hne; clear hne
  go_enter Try.func7, Try.ntmps7
  go_wp2_with fail
  refine (awake_any _).mono ?_
  rintro e w1 ⟨rfl, hb1⟩
  obtain ⟨hc1, hf1⟩ := bcell hb1
  have hz1 := hb1.size
  try simp at hz1
  have z1_0 : w.heap.size < w1.heap.size := by omega
  have z1_1 : w.heap.size + 1 < w1.heap.size := by omega
  have z1_2 : w.heap.size + 1 + 1 < w1.heap.size := by omega
  go_wp2_with fail
  refine (shift_t _ _ _ _ _ _ _ _ H.out).mono ?_
  rintro e w2 ⟨rfl, hb2⟩
  obtain ⟨hc2, hf2⟩ := bcell hb2
  have hz2 := hb2.size
  try simp at hz2
  have z2_0 : w.heap.size < w2.heap.size := by omega
  have z2_1 : w.heap.size + 1 < w2.heap.size := by omega
  have z2_2 : w.heap.size + 1 + 1 < w2.heap.size := by omega
  go_wp2_with fail
  refine (dshift_t _ _ _ _ _ _ _ _ H.out).mono ?_
  rintro e w3 ⟨rfl, hb3⟩
  obtain ⟨hc3, hf3⟩ := bcell hb3
  have hz3 := hb3.size
  try simp at hz3
  have z3_0 : w.heap.size < w3.heap.size := by omega
  have z3_1 : w.heap.size + 1 < w3.heap.size := by omega
  have z3_2 : w.heap.size + 1 + 1 < w3.heap.size := by omega
  have z3_3 : w2.heap.size < w3.heap.size := by omega
  go_wp2_with fail
  refine (minus_u _ _ _ _ _ _ _ _ _ H.out G.out N.out).mono ?_
  rintro e w4 ⟨rfl, hb4⟩
  obtain ⟨hc4, hf4⟩ := bcell hb4
  have hz4 := hb4.size
  try simp at hz4
  have z4_0 : w.heap.size < w4.heap.size := by omega
  have z4_1 : w.heap.size + 1 < w4.heap.size := by omega
  have z4_2 : w.heap.size + 1 + 1 < w4.heap.size := by omega
  have z4_3 : w2.heap.size < w4.heap.size := by omega
  have z4_4 : w3.heap.size < w4.heap.size := by omega
  go_wp2_with fail
  refine (dminus_u _ _ _ _ _ _ _ _ _ H.out G.out N.out).mono ?_
  rintro e w5 ⟨rfl, hb5⟩
  obtain ⟨hc5, hf5⟩ := bcell hb5
  have hz5 := hb5.size
  try simp at hz5
  have z5_0 : w.heap.size < w5.heap.size := by omega
  have z5_1 : w.heap.size + 1 < w5.heap.size := by omega
  have z5_2 : w.heap.size + 1 + 1 < w5.heap.size := by omega
  have z5_3 : w2.heap.size < w5.heap.size := by omega
  have z5_4 : w3.heap.size < w5.heap.size := by omega
  go_wp2_with fail
  refine (opp_t _ _ _ _ _ H.out).mono ?_
  rintro e w6 ⟨rfl, hb6⟩
  obtain ⟨hc6, hf6⟩ := bcell hb6
  have hz6 := hb6.size
  try simp at hz6
  have z6_0 : w.heap.size < w6.heap.size := by omega
  have z6_1 : w.heap.size + 1 < w6.heap.size := by omega
  have z6_2 : w.heap.size + 1 + 1 < w6.heap.size := by omega
  have z6_3 : w2.heap.size < w6.heap.size := by omega
  have z6_4 : w3.heap.size < w6.heap.size := by omega
  go_wp2_with fail
  refine (dopp_t _ _ _ _ _ H.out).mono ?_
  rintro e w7 ⟨rfl, hb7⟩
  obtain ⟨hc7, hf7⟩ := bcell hb7
  have hz7 := hb7.size
  try simp at hz7
  have z7_0 : w.heap.size < w7.heap.size := by omega
  have z7_1 : w.heap.size + 1 < w7.heap.size := by omega
  have z7_2 : w.heap.size + 1 + 1 < w7.heap.size := by omega
  have z7_3 : w2.heap.size < w7.heap.size := by omega
  have z7_4 : w3.heap.size < w7.heap.size := by omega
  go_wp2_with fail
  refine (order_t _ _ _ _ _ _ _ _ _ H.out G.out).mono ?_
  rintro e w8 ⟨rfl, hb8⟩
  obtain ⟨hc8, hf8⟩ := bcell hb8
  have hz8 := hb8.size
  try simp at hz8
  have z8_0 : w.heap.size < w8.heap.size := by omega
  have z8_1 : w.heap.size + 1 < w8.heap.size := by omega
  have z8_2 : w.heap.size + 1 + 1 < w8.heap.size := by omega
  have z8_3 : w2.heap.size < w8.heap.size := by omega
  have z8_4 : w3.heap.size < w8.heap.size := by omega
  go_wp2_with fail
  refine (dorder_t _ _ _ _ _ _ _ _ _ H.out G.out).mono ?_
  rintro e w9 ⟨rfl, hb9⟩
  obtain ⟨hc9, hf9⟩ := bcell hb9
  have hz9 := hb9.size
  try simp at hz9
  have z9_0 : w.heap.size < w9.heap.size := by omega
  have z9_1 : w.heap.size + 1 < w9.heap.size := by omega
  have z9_2 : w.heap.size + 1 + 1 < w9.heap.size := by omega
  have z9_3 : w2.heap.size < w9.heap.size := by omega
  have z9_4 : w3.heap.size < w9.heap.size := by omega
  go_wp2
  go_ret
  refine ⟨rfl, ?_⟩
  repeat (first | exact Below.refl _ _ | assumption | exact Below.alloc (Below.refl _ _) (Nat.le_refl _) _ | refine Below.setCell ?_ (by first | (simp; done) | (simp; omega) | omega) _ | refine below_drewN ?_ _ | refine Below.alloc ?_ (by first | (simp; done) | (simp; omega) | omega) _ | refine Below.trans ?_ (Below.mono (by assumption) (by first | (simp; done) | (simp; omega) | omega)))

set_option maxHeartbeats 800000 in
theorem moves_t (m x y z x' y' z' t0 t1 t2 : Int) (w : World) (h : formB m x y z = true) (h' : formB m x' y' z' = true):
    Calls Try.prog 7 #[.agg #[.int .i64 m, .int .i64 x, .int .i64 y, .int .i64 z], .agg #[.int .i64 m, .int .i64 x', .int .i64 y', .int .i64 z'], .agg #[.int .i64 t0, .int .i64 t1, .int .i64 t2]] w fun e w' => e = .returned (.bool true) ∧ Below w.heap.size w w' := by
  have H := Lib.hid h; clear h; have G := Lib.hid h'; clear h'
  go_enter Try.func7, Try.ntmps7
  go_wp2_with fail
  refine (awake_any _).mono ?_
  rintro e w1 ⟨rfl, hb1⟩
  obtain ⟨hc1, hf1⟩ := bcell hb1
  have hz1 := hb1.size
  try simp at hz1
  have z1_0 : w.heap.size < w1.heap.size := by omega
  have z1_1 : w.heap.size + 1 < w1.heap.size := by omega
  have z1_2 : w.heap.size + 1 + 1 < w1.heap.size := by omega
  go_wp2_with fail
  refine (shift_t _ _ _ _ _ _ _ _ H.out).mono ?_
  rintro e w2 ⟨rfl, hb2⟩
  obtain ⟨hc2, hf2⟩ := bcell hb2
  have hz2 := hb2.size
  try simp at hz2
  have z2_0 : w.heap.size < w2.heap.size := by omega
  have z2_1 : w.heap.size + 1 < w2.heap.size := by omega
  have z2_2 : w.heap.size + 1 + 1 < w2.heap.size := by omega
  go_wp2_with fail
  refine (dshift_t _ _ _ _ _ _ _ _ H.out).mono ?_
  rintro e w3 ⟨rfl, hb3⟩
  obtain ⟨hc3, hf3⟩ := bcell hb3
  have hz3 := hb3.size
  try simp at hz3
  have z3_0 : w.heap.size < w3.heap.size := by omega
  have z3_1 : w.heap.size + 1 < w3.heap.size := by omega
  have z3_2 : w.heap.size + 1 + 1 < w3.heap.size := by omega
  have z3_3 : w2.heap.size < w3.heap.size := by omega
  go_wp2_with fail
  refine (minus_t _ _ _ _ _ _ _ _ H.out G.out).mono ?_
  rintro e w4 ⟨rfl, hb4⟩
  obtain ⟨hc4, hf4⟩ := bcell hb4
  have hz4 := hb4.size
  try simp at hz4
  have z4_0 : w.heap.size < w4.heap.size := by omega
  have z4_1 : w.heap.size + 1 < w4.heap.size := by omega
  have z4_2 : w.heap.size + 1 + 1 < w4.heap.size := by omega
  have z4_3 : w2.heap.size < w4.heap.size := by omega
  have z4_4 : w3.heap.size < w4.heap.size := by omega
  go_wp2_with fail
  refine (dminus_t _ _ _ _ _ _ _ _ H.out G.out).mono ?_
  rintro e w5 ⟨rfl, hb5⟩
  obtain ⟨hc5, hf5⟩ := bcell hb5
  have hz5 := hb5.size
  try simp at hz5
  have z5_0 : w.heap.size < w5.heap.size := by omega
  have z5_1 : w.heap.size + 1 < w5.heap.size := by omega
  have z5_2 : w.heap.size + 1 + 1 < w5.heap.size := by omega
  have z5_3 : w2.heap.size < w5.heap.size := by omega
  have z5_4 : w3.heap.size < w5.heap.size := by omega
  go_wp2_with fail
  refine (opp_t _ _ _ _ _ H.out).mono ?_
  rintro e w6 ⟨rfl, hb6⟩
  obtain ⟨hc6, hf6⟩ := bcell hb6
  have hz6 := hb6.size
  try simp at hz6
  have z6_0 : w.heap.size < w6.heap.size := by omega
  have z6_1 : w.heap.size + 1 < w6.heap.size := by omega
  have z6_2 : w.heap.size + 1 + 1 < w6.heap.size := by omega
  have z6_3 : w2.heap.size < w6.heap.size := by omega
  have z6_4 : w3.heap.size < w6.heap.size := by omega
  go_wp2_with fail
  refine (dopp_t _ _ _ _ _ H.out).mono ?_
  rintro e w7 ⟨rfl, hb7⟩
  obtain ⟨hc7, hf7⟩ := bcell hb7
  have hz7 := hb7.size
  try simp at hz7
  have z7_0 : w.heap.size < w7.heap.size := by omega
  have z7_1 : w.heap.size + 1 < w7.heap.size := by omega
  have z7_2 : w.heap.size + 1 + 1 < w7.heap.size := by omega
  have z7_3 : w2.heap.size < w7.heap.size := by omega
  have z7_4 : w3.heap.size < w7.heap.size := by omega
  go_wp2_with fail
  refine (order_t _ _ _ _ _ _ _ _ _ H.out G.out).mono ?_
  rintro e w8 ⟨rfl, hb8⟩
  obtain ⟨hc8, hf8⟩ := bcell hb8
  have hz8 := hb8.size
  try simp at hz8
  have z8_0 : w.heap.size < w8.heap.size := by omega
  have z8_1 : w.heap.size + 1 < w8.heap.size := by omega
  have z8_2 : w.heap.size + 1 + 1 < w8.heap.size := by omega
  have z8_3 : w2.heap.size < w8.heap.size := by omega
  have z8_4 : w3.heap.size < w8.heap.size := by omega
  go_wp2_with fail
  refine (dorder_t _ _ _ _ _ _ _ _ _ H.out G.out).mono ?_
  rintro e w9 ⟨rfl, hb9⟩
  obtain ⟨hc9, hf9⟩ := bcell hb9
  have hz9 := hb9.size
  try simp at hz9
  have z9_0 : w.heap.size < w9.heap.size := by omega
  have z9_1 : w.heap.size + 1 < w9.heap.size := by omega
  have z9_2 : w.heap.size + 1 + 1 < w9.heap.size := by omega
  have z9_3 : w2.heap.size < w9.heap.size := by omega
  have z9_4 : w3.heap.size < w9.heap.size := by omega
  go_wp2
  go_ret
  refine ⟨rfl, ?_⟩
  repeat (first | exact Below.refl _ _ | assumption | exact Below.alloc (Below.refl _ _) (Nat.le_refl _) _ | refine Below.setCell ?_ (by first | (simp; done) | (simp; omega) | omega) _ | refine below_drewN ?_ _ | refine Below.alloc ?_ (by first | (simp; done) | (simp; omega) | omega) _ | refine Below.trans ?_ (Below.mono (by assumption) (by first | (simp; done) | (simp; omega) | omega)))

theorem moves_any (m x y z m' x' y' z' t0 t1 t2 : Int) (w : World) : Calls Try.prog 7 #[.agg #[.int .i64 m, .int .i64 x, .int .i64 y, .int .i64 z], .agg #[.int .i64 m', .int .i64 x', .int .i64 y', .int .i64 z'], .agg #[.int .i64 t0, .int .i64 t1, .int .i64 t2]] w fun e w' => e = .returned (.bool true) ∧ Below w.heap.size w w' := by
  cases h : formB m x y z with
  | false => exact moves_f1 _ _ _ _ _ _ _ _ _ _ _ w h
  | true =>
    cases h' : formB m' x' y' z' with
    | false => exact moves_f2 _ _ _ _ _ _ _ _ _ _ _ w h h'
    | true =>
      by_cases hne : m = m'
      · subst hne
        exact moves_t _ _ _ _ _ _ _ _ _ _ w h h'
      · exact moves_u _ _ _ _ _ _ _ _ _ _ _ w h h' hne

end Go.Proofs.Ytpjljlnkfimbaaa
