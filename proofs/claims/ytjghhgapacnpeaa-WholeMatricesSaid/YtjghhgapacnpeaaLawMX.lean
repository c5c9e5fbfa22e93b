/-
  The law WholeMatrices, walked (maps of the hexagon): it returns true.
-/
import Derived.Test.YtjghhgapacnpeaaLawM0
import Derived.Test.YtjghhgapacnpeaaMatG
namespace Go.Proofs.Ytjghhgapacnpeaa
open Go.RowKit
attribute [local irreducible] World.setCell

set_option linter.unusedSimpArgs false
set_option linter.unusedVariables false

set_option maxHeartbeats 12800000 in
set_option maxRecDepth 100000 in
theorem mat_hex (a0 a1 a2 a3 a4 a5 a6 a7 a8 b0 b1 b2 b3 b4 b5 b6 b7 b8 u0 u1 u2 k d1 d2 d3 : Int) (x y xy adj tx s0 g inv : Mt) (yu z hy hl : V3) (n : Nat) (w : World) (Ha : ∀ w, Calls Try.prog 5 #[.agg #[.int .i8 a0, .int .i8 a1, .int .i8 a2, .int .i8 a3, .int .i8 a4, .int .i8 a5, .int .i8 a6, .int .i8 a7, .int .i8 a8]] w fun e w' => e = .returned (.agg #[.int .i64 x.p00, .int .i64 x.p01, .int .i64 x.p02, .int .i64 x.p10, .int .i64 x.p11, .int .i64 x.p12, .int .i64 x.p20, .int .i64 x.p21, .int .i64 x.p22]) ∧ Below w.heap.size w w') (Hb : ∀ w, Calls Try.prog 5 #[.agg #[.int .i8 b0, .int .i8 b1, .int .i8 b2, .int .i8 b3, .int .i8 b4, .int .i8 b5, .int .i8 b6, .int .i8 b7, .int .i8 b8]] w fun e w' => e = .returned (.agg #[.int .i64 y.p00, .int .i64 y.p01, .int .i64 y.p02, .int .i64 y.p10, .int .i64 y.p11, .int .i64 y.p12, .int .i64 y.p20, .int .i64 y.p21, .int .i64 y.p22]) ∧ Below w.heap.size w w') (H3 : ∀ w, Calls Try.prog 6 #[.agg #[.int .i64 x.p00, .int .i64 x.p01, .int .i64 x.p02, .int .i64 x.p10, .int .i64 x.p11, .int .i64 x.p12, .int .i64 x.p20, .int .i64 x.p21, .int .i64 x.p22], .agg #[.int .i64 y.p00, .int .i64 y.p01, .int .i64 y.p02, .int .i64 y.p10, .int .i64 y.p11, .int .i64 y.p12, .int .i64 y.p20, .int .i64 y.p21, .int .i64 y.p22]] w fun e w' => e = .returned (.tuple #[.agg #[.int .i64 xy.p00, .int .i64 xy.p01, .int .i64 xy.p02, .int .i64 xy.p10, .int .i64 xy.p11, .int .i64 xy.p12, .int .i64 xy.p20, .int .i64 xy.p21, .int .i64 xy.p22], .int .i64 0]) ∧ Below w.heap.size w w') (H4 : ∀ w, Calls Try.prog 7 #[.agg #[.int .i64 y.p00, .int .i64 y.p01, .int .i64 y.p02, .int .i64 y.p10, .int .i64 y.p11, .int .i64 y.p12, .int .i64 y.p20, .int .i64 y.p21, .int .i64 y.p22], .agg #[.int .i64 u0, .int .i64 u1, .int .i64 u2]] w fun e w' => e = .returned (.tuple #[.agg #[.int .i64 yu.x, .int .i64 yu.y, .int .i64 yu.z], .int .i64 0]) ∧ Below w.heap.size w w') (H5 : ∀ w, Calls Try.prog 7 #[.agg #[.int .i64 x.p00, .int .i64 x.p01, .int .i64 x.p02, .int .i64 x.p10, .int .i64 x.p11, .int .i64 x.p12, .int .i64 x.p20, .int .i64 x.p21, .int .i64 x.p22], .agg #[.int .i64 yu.x, .int .i64 yu.y, .int .i64 yu.z]] w fun e w' => e = .returned (.tuple #[.agg #[.int .i64 z.x, .int .i64 z.y, .int .i64 z.z], .int .i64 0]) ∧ Below w.heap.size w w') (H6 : ∀ w, Calls Try.prog 7 #[.agg #[.int .i64 xy.p00, .int .i64 xy.p01, .int .i64 xy.p02, .int .i64 xy.p10, .int .i64 xy.p11, .int .i64 xy.p12, .int .i64 xy.p20, .int .i64 xy.p21, .int .i64 xy.p22], .agg #[.int .i64 u0, .int .i64 u1, .int .i64 u2]] w fun e w' => e = .returned (.tuple #[.agg #[.int .i64 z.x, .int .i64 z.y, .int .i64 z.z], .int .i64 0]) ∧ Below w.heap.size w w') (H7 : ∀ w, Calls Try.prog 8 #[.agg #[.int .i64 x.p00, .int .i64 x.p01, .int .i64 x.p02, .int .i64 x.p10, .int .i64 x.p11, .int .i64 x.p12, .int .i64 x.p20, .int .i64 x.p21, .int .i64 x.p22]] w fun e w' => e = .returned (.tuple #[.int .i64 d1, .int .i64 0]) ∧ Below w.heap.size w w') (H8 : ∀ w, Calls Try.prog 8 #[.agg #[.int .i64 y.p00, .int .i64 y.p01, .int .i64 y.p02, .int .i64 y.p10, .int .i64 y.p11, .int .i64 y.p12, .int .i64 y.p20, .int .i64 y.p21, .int .i64 y.p22]] w fun e w' => e = .returned (.tuple #[.int .i64 d2, .int .i64 0]) ∧ Below w.heap.size w w') (H9 : ∀ w, Calls Try.prog 8 #[.agg #[.int .i64 xy.p00, .int .i64 xy.p01, .int .i64 xy.p02, .int .i64 xy.p10, .int .i64 xy.p11, .int .i64 xy.p12, .int .i64 xy.p20, .int .i64 xy.p21, .int .i64 xy.p22]] w fun e w' => e = .returned (.tuple #[.int .i64 d3, .int .i64 0]) ∧ Below w.heap.size w w') (H10 : ∀ w, Calls Try.prog 9 #[.agg #[.int .i64 x.p00, .int .i64 x.p01, .int .i64 x.p02, .int .i64 x.p10, .int .i64 x.p11, .int .i64 x.p12, .int .i64 x.p20, .int .i64 x.p21, .int .i64 x.p22]] w fun e w' => e = .returned (.tuple #[.agg #[.int .i64 adj.p00, .int .i64 adj.p01, .int .i64 adj.p02, .int .i64 adj.p10, .int .i64 adj.p11, .int .i64 adj.p12, .int .i64 adj.p20, .int .i64 adj.p21, .int .i64 adj.p22], .int .i64 0]) ∧ Below w.heap.size w w') (H11 : ∀ w, Calls Try.prog 6 #[.agg #[.int .i64 x.p00, .int .i64 x.p01, .int .i64 x.p02, .int .i64 x.p10, .int .i64 x.p11, .int .i64 x.p12, .int .i64 x.p20, .int .i64 x.p21, .int .i64 x.p22], .agg #[.int .i64 adj.p00, .int .i64 adj.p01, .int .i64 adj.p02, .int .i64 adj.p10, .int .i64 adj.p11, .int .i64 adj.p12, .int .i64 adj.p20, .int .i64 adj.p21, .int .i64 adj.p22]] w fun e w' => e = .returned (.tuple #[.agg #[.int .i64 d1, .int .i64 0, .int .i64 0, .int .i64 0, .int .i64 d1, .int .i64 0, .int .i64 0, .int .i64 0, .int .i64 d1], .int .i64 0]) ∧ Below w.heap.size w w') (H13 : ∀ w, Calls Try.prog 11 #[.agg #[.int .i64 u0, .int .i64 u1, .int .i64 u2], .agg #[.int .i64 x.p00, .int .i64 x.p01, .int .i64 x.p02, .int .i64 x.p10, .int .i64 x.p11, .int .i64 x.p12, .int .i64 x.p20, .int .i64 x.p21, .int .i64 x.p22]] w fun e w' => e = .returned (.tuple #[.agg #[.int .i64 hy.x, .int .i64 hy.y, .int .i64 hy.z], .int .i64 0]) ∧ Below w.heap.size w w') (H14 : ∀ w, Calls Try.prog 11 #[.agg #[.int .i64 hy.x, .int .i64 hy.y, .int .i64 hy.z], .agg #[.int .i64 y.p00, .int .i64 y.p01, .int .i64 y.p02, .int .i64 y.p10, .int .i64 y.p11, .int .i64 y.p12, .int .i64 y.p20, .int .i64 y.p21, .int .i64 y.p22]] w fun e w' => e = .returned (.tuple #[.agg #[.int .i64 hl.x, .int .i64 hl.y, .int .i64 hl.z], .int .i64 0]) ∧ Below w.heap.size w w') (H15 : ∀ w, Calls Try.prog 11 #[.agg #[.int .i64 u0, .int .i64 u1, .int .i64 u2], .agg #[.int .i64 xy.p00, .int .i64 xy.p01, .int .i64 xy.p02, .int .i64 xy.p10, .int .i64 xy.p11, .int .i64 xy.p12, .int .i64 xy.p20, .int .i64 xy.p21, .int .i64 xy.p22]] w fun e w' => e = .returned (.tuple #[.agg #[.int .i64 hl.x, .int .i64 hl.y, .int .i64 hl.z], .int .i64 0]) ∧ Below w.heap.size w w') (H16 : ∀ w, Calls Try.prog 12 #[.agg #[.int .i64 x.p00, .int .i64 x.p01, .int .i64 x.p02, .int .i64 x.p10, .int .i64 x.p11, .int .i64 x.p12, .int .i64 x.p20, .int .i64 x.p21, .int .i64 x.p22]] w fun e w' => e = .returned (.tuple #[.agg #[.int .i64 tx.p00, .int .i64 tx.p01, .int .i64 tx.p02, .int .i64 tx.p10, .int .i64 tx.p11, .int .i64 tx.p12, .int .i64 tx.p20, .int .i64 tx.p21, .int .i64 tx.p22], .int .i64 0]) ∧ Below w.heap.size w w') (H17 : ∀ w, Calls Try.prog 7 #[.agg #[.int .i64 tx.p00, .int .i64 tx.p01, .int .i64 tx.p02, .int .i64 tx.p10, .int .i64 tx.p11, .int .i64 tx.p12, .int .i64 tx.p20, .int .i64 tx.p21, .int .i64 tx.p22], .agg #[.int .i64 u0, .int .i64 u1, .int .i64 u2]] w fun e w' => e = .returned (.tuple #[.agg #[.int .i64 hy.x, .int .i64 hy.y, .int .i64 hy.z], .int .i64 0]) ∧ Below w.heap.size w w') (H18 : ∀ w, Calls Try.prog 13 #[.int .u8 k] w fun e w' => e = .returned (.agg #[.int .i64 s0.p00, .int .i64 s0.p01, .int .i64 s0.p02, .int .i64 s0.p10, .int .i64 s0.p11, .int .i64 s0.p12, .int .i64 s0.p20, .int .i64 s0.p21, .int .i64 s0.p22]) ∧ Below w.heap.size w w') (H19 : ∀ w, Calls Try.prog 14 #[.int .u8 k] w fun e w' => e = .returned (.agg #[.int .i64 g.p00, .int .i64 g.p01, .int .i64 g.p02, .int .i64 g.p10, .int .i64 g.p11, .int .i64 g.p12, .int .i64 g.p20, .int .i64 g.p21, .int .i64 g.p22]) ∧ Below w.heap.size w w') (H20 : ∀ w, Calls Try.prog 15 #[.agg #[.int .i64 g.p00, .int .i64 g.p01, .int .i64 g.p02, .int .i64 g.p10, .int .i64 g.p11, .int .i64 g.p12, .int .i64 g.p20, .int .i64 g.p21, .int .i64 g.p22]] w fun e w' => e = .returned (.tuple #[.agg #[.int .i64 inv.p00, .int .i64 inv.p01, .int .i64 inv.p02, .int .i64 inv.p10, .int .i64 inv.p11, .int .i64 inv.p12, .int .i64 inv.p20, .int .i64 inv.p21, .int .i64 inv.p22], .int .i64 0]) ∧ Below w.heap.size w w') (H21 : ∀ w, Calls Try.prog 6 #[.agg #[.int .i64 g.p00, .int .i64 g.p01, .int .i64 g.p02, .int .i64 g.p10, .int .i64 g.p11, .int .i64 g.p12, .int .i64 g.p20, .int .i64 g.p21, .int .i64 g.p22], .agg #[.int .i64 inv.p00, .int .i64 inv.p01, .int .i64 inv.p02, .int .i64 inv.p10, .int .i64 inv.p11, .int .i64 inv.p12, .int .i64 inv.p20, .int .i64 inv.p21, .int .i64 inv.p22]] w fun e w' => e = .returned (.tuple #[.agg #[.int .i64 1, .int .i64 0, .int .i64 0, .int .i64 0, .int .i64 1, .int .i64 0, .int .i64 0, .int .i64 0, .int .i64 1], .int .i64 0]) ∧ Below w.heap.size w w') (H22 : ∀ w, Calls Try.prog 16 #[.agg #[.int .i64 g.p00, .int .i64 g.p01, .int .i64 g.p02, .int .i64 g.p10, .int .i64 g.p11, .int .i64 g.p12, .int .i64 g.p20, .int .i64 g.p21, .int .i64 g.p22]] w fun e w' => e = .returned (.tuple #[.int .i64 (n : Int), .int .i64 0]) ∧ Below w.heap.size w w') (Ht : ∀ (c : Mt) w, Calls Try.prog 17 #[.agg #[.int .i64 c.p00, .int .i64 c.p01, .int .i64 c.p02, .int .i64 c.p10, .int .i64 c.p11, .int .i64 c.p12, .int .i64 c.p20, .int .i64 c.p21, .int .i64 c.p22], .agg #[.int .i64 g.p00, .int .i64 g.p01, .int .i64 g.p02, .int .i64 g.p10, .int .i64 g.p11, .int .i64 g.p12, .int .i64 g.p20, .int .i64 g.p21, .int .i64 g.p22]] w fun e w' => e = .returned (.agg #[.int .i64 (mulW c g).p00, .int .i64 (mulW c g).p01, .int .i64 (mulW c g).p02, .int .i64 (mulW c g).p10, .int .i64 (mulW c g).p11, .int .i64 (mulW c g).p12, .int .i64 (mulW c g).p20, .int .i64 (mulW c g).p21, .int .i64 (mulW c g).p22]) ∧ Below w.heap.size w w') (e9 : wrap64 (d1 * d2) = d3) (hn : n = 1 ∨ n = 2 ∨ n = 3 ∨ n = 4 ∨ n = 6) (hw : ∀ j, j + 1 < n → pwG g j ≠ one) (hq : pwG g (n - 1) = one) (u0_b : -32768 ≤ u0 ∧ u0 ≤ 32767) (u1_b : -32768 ≤ u1 ∧ u1 ≤ 32767) (u2_b : -32768 ≤ u2 ∧ u2 ≤ 32767):
    Calls Try.prog 3 #[.agg #[.int .i8 a0, .int .i8 a1, .int .i8 a2, .int .i8 a3, .int .i8 a4, .int .i8 a5, .int .i8 a6, .int .i8 a7, .int .i8 a8], .agg #[.int .i8 b0, .int .i8 b1, .int .i8 b2, .int .i8 b3, .int .i8 b4, .int .i8 b5, .int .i8 b6, .int .i8 b7, .int .i8 b8], .agg #[.int .i16 u0, .int .i16 u1, .int .i16 u2], .int .u8 k, .bool true] w fun e w' => e = .returned (.bool true) ∧ Below w.heap.size w w' := by
  have XHa := Lib.hid Ha; have XHb := Lib.hid Hb; have XH3 := Lib.hid H3; have XH4 := Lib.hid H4; have XH5 := Lib.hid H5; have XH6 := Lib.hid H6; have XH7 := Lib.hid H7; have XH8 := Lib.hid H8; have XH9 := Lib.hid H9; have XH10 := Lib.hid H10; have XH11 := Lib.hid H11; have XH13 := Lib.hid H13; have XH14 := Lib.hid H14; have XH15 := Lib.hid H15; have XH16 := Lib.hid H16; have XH17 := Lib.hid H17; have XH18 := Lib.hid H18; have XH19 := Lib.hid H19; have XH20 := Lib.hid H20; have XH21 := Lib.hid H21; have XH22 := Lib.hid H22; have XHt := Lib.hid Ht; have XW := Lib.hid hw; have XQ := Lib.hid hq; have X9 := Lib.hid e9; clear Ha Hb H3 H4 H5 H6 H7 H8 H9 H10 H11 H13 H14 H15 H16 H17 H18 H19 H20 H21 H22 Ht hw hq e9
  go_enter Try.func3, Try.ntmps3
  go_wp2_with fail
  refine (XHa.out _).mono ?_
  rintro e w1 ⟨rfl, hb1⟩
  obtain ⟨hc1, hf1⟩ := bcell hb1
  have hz1 := hb1.size
  try simp at hz1
  have z1_0 : w.heap.size < w1.heap.size := by omega
  have z1_1 : w.heap.size + 1 < w1.heap.size := by omega
  have z1_2 : w.heap.size + 1 + 1 < w1.heap.size := by omega
  go_wp2_with fail
  refine (XHb.out _).mono ?_
  rintro e w2 ⟨rfl, hb2⟩
  obtain ⟨hc2, hf2⟩ := bcell hb2
  have hz2 := hb2.size
  try simp at hz2
  have z2_0 : w.heap.size < w2.heap.size := by omega
  have z2_1 : w.heap.size + 1 < w2.heap.size := by omega
  have z2_2 : w.heap.size + 1 + 1 < w2.heap.size := by omega
  have z2_3 : w1.heap.size < w2.heap.size := by omega
  have y2_0 : w.heap.size < w1.heap.size + 1 := by omega
  have y2_1 : w.heap.size + 1 < w1.heap.size + 1 := by omega
  have y2_2 : w.heap.size + 1 + 1 < w1.heap.size + 1 := by omega
  go_wp2_with fail
  refine (XH3.out _).mono ?_
  rintro e w3 ⟨rfl, hb3⟩
  obtain ⟨hc3, hf3⟩ := bcell hb3
  have hz3 := hb3.size
  try simp at hz3
  have z3_0 : w.heap.size < w3.heap.size := by omega
  have z3_1 : w.heap.size + 1 < w3.heap.size := by omega
  have z3_2 : w.heap.size + 1 + 1 < w3.heap.size := by omega
  have z3_3 : w1.heap.size < w3.heap.size := by omega
  have z3_4 : w2.heap.size < w3.heap.size := by omega
  have z3_5 : w2.heap.size + 1 < w3.heap.size := by omega
  have y3_0 : w.heap.size < w2.heap.size + 1 + 1 := by omega
  have y3_1 : w.heap.size + 1 < w2.heap.size + 1 + 1 := by omega
  have y3_2 : w.heap.size + 1 + 1 < w2.heap.size + 1 + 1 := by omega
  have y3_3 : w1.heap.size < w2.heap.size + 1 + 1 := by omega
  go_wp2_with fail
  refine (XH4.out _).mono ?_
  rintro e w4 ⟨rfl, hb4⟩
  obtain ⟨hc4, hf4⟩ := bcell hb4
  have hz4 := hb4.size
  try simp at hz4
  have z4_0 : w.heap.size < w4.heap.size := by omega
  have z4_1 : w.heap.size + 1 < w4.heap.size := by omega
  have z4_2 : w.heap.size + 1 + 1 < w4.heap.size := by omega
  have z4_3 : w1.heap.size < w4.heap.size := by omega
  have z4_4 : w2.heap.size < w4.heap.size := by omega
  have z4_5 : w2.heap.size + 1 < w4.heap.size := by omega
  have z4_6 : w3.heap.size < w4.heap.size := by omega
  have y4_0 : w.heap.size < w3.heap.size + 1 := by omega
  have y4_1 : w.heap.size + 1 < w3.heap.size + 1 := by omega
  have y4_2 : w.heap.size + 1 + 1 < w3.heap.size + 1 := by omega
  have y4_3 : w1.heap.size < w3.heap.size + 1 := by omega
  have y4_4 : w2.heap.size < w3.heap.size + 1 := by omega
  have y4_5 : w2.heap.size + 1 < w3.heap.size + 1 := by omega
  go_wp2_with fail
  refine (XH5.out _).mono ?_
  rintro e w5 ⟨rfl, hb5⟩
  obtain ⟨hc5, hf5⟩ := bcell hb5
  have hz5 := hb5.size
  try simp at hz5
  have z5_0 : w.heap.size < w5.heap.size := by omega
  have z5_1 : w.heap.size + 1 < w5.heap.size := by omega
  have z5_2 : w.heap.size + 1 + 1 < w5.heap.size := by omega
  have z5_3 : w1.heap.size < w5.heap.size := by omega
  have z5_4 : w2.heap.size < w5.heap.size := by omega
  have z5_5 : w2.heap.size + 1 < w5.heap.size := by omega
  have z5_6 : w3.heap.size < w5.heap.size := by omega
  have z5_7 : w4.heap.size < w5.heap.size := by omega
  have y5_0 : w.heap.size < w4.heap.size + 1 := by omega
  have y5_1 : w.heap.size + 1 < w4.heap.size + 1 := by omega
  have y5_2 : w.heap.size + 1 + 1 < w4.heap.size + 1 := by omega
  have y5_3 : w1.heap.size < w4.heap.size + 1 := by omega
  have y5_4 : w2.heap.size < w4.heap.size + 1 := by omega
  have y5_5 : w2.heap.size + 1 < w4.heap.size + 1 := by omega
  have y5_6 : w3.heap.size < w4.heap.size + 1 := by omega
  go_wp2_with fail
  refine (XH6.out _).mono ?_
  rintro e w6 ⟨rfl, hb6⟩
  obtain ⟨hc6, hf6⟩ := bcell hb6
  have hz6 := hb6.size
  try simp at hz6
  have z6_0 : w.heap.size < w6.heap.size := by omega
  have z6_1 : w.heap.size + 1 < w6.heap.size := by omega
  have z6_2 : w.heap.size + 1 + 1 < w6.heap.size := by omega
  have z6_3 : w1.heap.size < w6.heap.size := by omega
  have z6_4 : w2.heap.size < w6.heap.size := by omega
  have z6_5 : w2.heap.size + 1 < w6.heap.size := by omega
  have z6_6 : w3.heap.size < w6.heap.size := by omega
  have z6_7 : w4.heap.size < w6.heap.size := by omega
  have z6_8 : w5.heap.size < w6.heap.size := by omega
  have y6_0 : w.heap.size < w5.heap.size + 1 := by omega
  have y6_1 : w.heap.size + 1 < w5.heap.size + 1 := by omega
  have y6_2 : w.heap.size + 1 + 1 < w5.heap.size + 1 := by omega
  have y6_3 : w1.heap.size < w5.heap.size + 1 := by omega
  have y6_4 : w2.heap.size < w5.heap.size + 1 := by omega
  have y6_5 : w2.heap.size + 1 < w5.heap.size + 1 := by omega
  have y6_6 : w3.heap.size < w5.heap.size + 1 := by omega
  have y6_7 : w4.heap.size < w5.heap.size + 1 := by omega
  go_wp2_with fail
  refine (XH7.out _).mono ?_
  rintro e w7 ⟨rfl, hb7⟩
  obtain ⟨hc7, hf7⟩ := bcell hb7
  have hz7 := hb7.size
  try simp at hz7
  have z7_0 : w.heap.size < w7.heap.size := by omega
  have z7_1 : w.heap.size + 1 < w7.heap.size := by omega
  have z7_2 : w.heap.size + 1 + 1 < w7.heap.size := by omega
  have z7_3 : w1.heap.size < w7.heap.size := by omega
  have z7_4 : w2.heap.size < w7.heap.size := by omega
  have z7_5 : w2.heap.size + 1 < w7.heap.size := by omega
  have z7_6 : w3.heap.size < w7.heap.size := by omega
  have z7_7 : w4.heap.size < w7.heap.size := by omega
  have z7_8 : w5.heap.size < w7.heap.size := by omega
  have z7_9 : w6.heap.size < w7.heap.size := by omega
  have y7_0 : w.heap.size < w6.heap.size + 1 := by omega
  have y7_1 : w.heap.size + 1 < w6.heap.size + 1 := by omega
  have y7_2 : w.heap.size + 1 + 1 < w6.heap.size + 1 := by omega
  have y7_3 : w1.heap.size < w6.heap.size + 1 := by omega
  have y7_4 : w2.heap.size < w6.heap.size + 1 := by omega
  have y7_5 : w2.heap.size + 1 < w6.heap.size + 1 := by omega
  have y7_6 : w3.heap.size < w6.heap.size + 1 := by omega
  have y7_7 : w4.heap.size < w6.heap.size + 1 := by omega
  have y7_8 : w5.heap.size < w6.heap.size + 1 := by omega
  go_wp2_with fail
  refine (XH8.out _).mono ?_
  rintro e w8 ⟨rfl, hb8⟩
  obtain ⟨hc8, hf8⟩ := bcell hb8
  have hz8 := hb8.size
  try simp at hz8
  have z8_0 : w.heap.size < w8.heap.size := by omega
  have z8_1 : w.heap.size + 1 < w8.heap.size := by omega
  have z8_2 : w.heap.size + 1 + 1 < w8.heap.size := by omega
  have z8_3 : w1.heap.size < w8.heap.size := by omega
  have z8_4 : w2.heap.size < w8.heap.size := by omega
  have z8_5 : w2.heap.size + 1 < w8.heap.size := by omega
  have z8_6 : w3.heap.size < w8.heap.size := by omega
  have z8_7 : w4.heap.size < w8.heap.size := by omega
  have z8_8 : w5.heap.size < w8.heap.size := by omega
  have z8_9 : w6.heap.size < w8.heap.size := by omega
  go_wp2_with fail
  refine (XH9.out _).mono ?_
  rintro e w9 ⟨rfl, hb9⟩
  obtain ⟨hc9, hf9⟩ := bcell hb9
  have hz9 := hb9.size
  try simp at hz9
  have z9_0 : w.heap.size < w9.heap.size := by omega
  have z9_1 : w.heap.size + 1 < w9.heap.size := by omega
  have z9_2 : w.heap.size + 1 + 1 < w9.heap.size := by omega
  have z9_3 : w1.heap.size < w9.heap.size := by omega
  have z9_4 : w2.heap.size < w9.heap.size := by omega
  have z9_5 : w2.heap.size + 1 < w9.heap.size := by omega
  have z9_6 : w3.heap.size < w9.heap.size := by omega
  have z9_7 : w4.heap.size < w9.heap.size := by omega
  have z9_8 : w5.heap.size < w9.heap.size := by omega
  have z9_9 : w6.heap.size < w9.heap.size := by omega
  go_wp2_with fail
  refine (XH10.out _).mono ?_
  rintro e w10 ⟨rfl, hb10⟩
  obtain ⟨hc10, hf10⟩ := bcell hb10
  have hz10 := hb10.size
  try simp at hz10
  have z10_0 : w.heap.size < w10.heap.size := by omega
  have z10_1 : w.heap.size + 1 < w10.heap.size := by omega
  have z10_2 : w.heap.size + 1 + 1 < w10.heap.size := by omega
  have z10_3 : w1.heap.size < w10.heap.size := by omega
  have z10_4 : w2.heap.size < w10.heap.size := by omega
  have z10_5 : w2.heap.size + 1 < w10.heap.size := by omega
  have z10_6 : w3.heap.size < w10.heap.size := by omega
  have z10_7 : w4.heap.size < w10.heap.size := by omega
  have z10_8 : w5.heap.size < w10.heap.size := by omega
  have z10_9 : w6.heap.size < w10.heap.size := by omega
  go_wp2_with fail
  refine (XH11.out _).mono ?_
  rintro e w11 ⟨rfl, hb11⟩
  obtain ⟨hc11, hf11⟩ := bcell hb11
  have hz11 := hb11.size
  try simp at hz11
  have z11_0 : w.heap.size < w11.heap.size := by omega
  have z11_1 : w.heap.size + 1 < w11.heap.size := by omega
  have z11_2 : w.heap.size + 1 + 1 < w11.heap.size := by omega
  have z11_3 : w1.heap.size < w11.heap.size := by omega
  have z11_4 : w2.heap.size < w11.heap.size := by omega
  have z11_5 : w2.heap.size + 1 < w11.heap.size := by omega
  have z11_6 : w3.heap.size < w11.heap.size := by omega
  have z11_7 : w4.heap.size < w11.heap.size := by omega
  have z11_8 : w5.heap.size < w11.heap.size := by omega
  have z11_9 : w6.heap.size < w11.heap.size := by omega
  have z11_10 : w10.heap.size < w11.heap.size := by omega
  have y11_0 : w.heap.size < w10.heap.size + 1 := by omega
  have y11_1 : w.heap.size + 1 < w10.heap.size + 1 := by omega
  have y11_2 : w.heap.size + 1 + 1 < w10.heap.size + 1 := by omega
  have y11_3 : w1.heap.size < w10.heap.size + 1 := by omega
  have y11_4 : w2.heap.size < w10.heap.size + 1 := by omega
  have y11_5 : w2.heap.size + 1 < w10.heap.size + 1 := by omega
  have y11_6 : w3.heap.size < w10.heap.size + 1 := by omega
  have y11_7 : w4.heap.size < w10.heap.size + 1 := by omega
  have y11_8 : w5.heap.size < w10.heap.size + 1 := by omega
  have y11_9 : w6.heap.size < w10.heap.size + 1 := by omega
  go_wp2_with fail
  refine (identity_any _).mono ?_
  rintro e w12 ⟨rfl, hb12⟩
  obtain ⟨hc12, hf12⟩ := bcell hb12
  have hz12 := hb12.size
  try simp at hz12
  have z12_0 : w.heap.size < w12.heap.size := by omega
  have z12_1 : w.heap.size + 1 < w12.heap.size := by omega
  have z12_2 : w.heap.size + 1 + 1 < w12.heap.size := by omega
  have z12_3 : w1.heap.size < w12.heap.size := by omega
  have z12_4 : w2.heap.size < w12.heap.size := by omega
  have z12_5 : w2.heap.size + 1 < w12.heap.size := by omega
  have z12_6 : w3.heap.size < w12.heap.size := by omega
  have z12_7 : w4.heap.size < w12.heap.size := by omega
  have z12_8 : w5.heap.size < w12.heap.size := by omega
  have z12_9 : w6.heap.size < w12.heap.size := by omega
  have z12_10 : w10.heap.size < w12.heap.size := by omega
  have z12_11 : w11.heap.size < w12.heap.size := by omega
  have y12_0 : w.heap.size < w11.heap.size + 1 := by omega
  have y12_1 : w.heap.size + 1 < w11.heap.size + 1 := by omega
  have y12_2 : w.heap.size + 1 + 1 < w11.heap.size + 1 := by omega
  have y12_3 : w1.heap.size < w11.heap.size + 1 := by omega
  have y12_4 : w2.heap.size < w11.heap.size + 1 := by omega
  have y12_5 : w2.heap.size + 1 < w11.heap.size + 1 := by omega
  have y12_6 : w3.heap.size < w11.heap.size + 1 := by omega
  have y12_7 : w4.heap.size < w11.heap.size + 1 := by omega
  have y12_8 : w5.heap.size < w11.heap.size + 1 := by omega
  have y12_9 : w6.heap.size < w11.heap.size + 1 := by omega
  have y12_10 : w10.heap.size < w11.heap.size + 1 := by omega
  have e9 := X9.out
  have fc1_0_0 : w12.cell? ⟨w1.heap.size, 0, none⟩ = some (.int .i64 x.p00) := by go_simp
  have fc1_0_1 : w12.cell? ⟨w1.heap.size, 1, none⟩ = some (.int .i64 x.p01) := by go_simp
  have fc1_0_2 : w12.cell? ⟨w1.heap.size, 2, none⟩ = some (.int .i64 x.p02) := by go_simp
  have fc1_0_3 : w12.cell? ⟨w1.heap.size, 3, none⟩ = some (.int .i64 x.p10) := by go_simp
  have fc1_0_4 : w12.cell? ⟨w1.heap.size, 4, none⟩ = some (.int .i64 x.p11) := by go_simp
  have fc1_0_5 : w12.cell? ⟨w1.heap.size, 5, none⟩ = some (.int .i64 x.p12) := by go_simp
  have fc1_0_6 : w12.cell? ⟨w1.heap.size, 6, none⟩ = some (.int .i64 x.p20) := by go_simp
  have fc1_0_7 : w12.cell? ⟨w1.heap.size, 7, none⟩ = some (.int .i64 x.p21) := by go_simp
  have fc1_0_8 : w12.cell? ⟨w1.heap.size, 8, none⟩ = some (.int .i64 x.p22) := by go_simp
  have fb1_0 : w1.heap.size < w12.heap.size := by omega
  have fc1_1_0 : w12.cell? ⟨w2.heap.size, 0, none⟩ = some (.int .i64 y.p00) := by go_simp
  have fc1_1_1 : w12.cell? ⟨w2.heap.size, 1, none⟩ = some (.int .i64 y.p01) := by go_simp
  have fc1_1_2 : w12.cell? ⟨w2.heap.size, 2, none⟩ = some (.int .i64 y.p02) := by go_simp
  have fc1_1_3 : w12.cell? ⟨w2.heap.size, 3, none⟩ = some (.int .i64 y.p10) := by go_simp
  have fc1_1_4 : w12.cell? ⟨w2.heap.size, 4, none⟩ = some (.int .i64 y.p11) := by go_simp
  have fc1_1_5 : w12.cell? ⟨w2.heap.size, 5, none⟩ = some (.int .i64 y.p12) := by go_simp
  have fc1_1_6 : w12.cell? ⟨w2.heap.size, 6, none⟩ = some (.int .i64 y.p20) := by go_simp
  have fc1_1_7 : w12.cell? ⟨w2.heap.size, 7, none⟩ = some (.int .i64 y.p21) := by go_simp
  have fc1_1_8 : w12.cell? ⟨w2.heap.size, 8, none⟩ = some (.int .i64 y.p22) := by go_simp
  have fb1_1 : w2.heap.size < w12.heap.size := by omega
  have fc1_2_0 : w12.cell? ⟨w2.heap.size + 1, 0, none⟩ = some (.int .i64 u0) := by go_simp
  have fc1_2_1 : w12.cell? ⟨w2.heap.size + 1, 1, none⟩ = some (.int .i64 u1) := by go_simp
  have fc1_2_2 : w12.cell? ⟨w2.heap.size + 1, 2, none⟩ = some (.int .i64 u2) := by go_simp
  have fb1_2 : w2.heap.size + 1 < w12.heap.size := by omega
  have fc1_3_0 : w12.cell? ⟨w3.heap.size, 0, none⟩ = some (.int .i64 xy.p00) := by go_simp
  have fc1_3_1 : w12.cell? ⟨w3.heap.size, 1, none⟩ = some (.int .i64 xy.p01) := by go_simp
  have fc1_3_2 : w12.cell? ⟨w3.heap.size, 2, none⟩ = some (.int .i64 xy.p02) := by go_simp
  have fc1_3_3 : w12.cell? ⟨w3.heap.size, 3, none⟩ = some (.int .i64 xy.p10) := by go_simp
  have fc1_3_4 : w12.cell? ⟨w3.heap.size, 4, none⟩ = some (.int .i64 xy.p11) := by go_simp
  have fc1_3_5 : w12.cell? ⟨w3.heap.size, 5, none⟩ = some (.int .i64 xy.p12) := by go_simp
  have fc1_3_6 : w12.cell? ⟨w3.heap.size, 6, none⟩ = some (.int .i64 xy.p20) := by go_simp
  have fc1_3_7 : w12.cell? ⟨w3.heap.size, 7, none⟩ = some (.int .i64 xy.p21) := by go_simp
  have fc1_3_8 : w12.cell? ⟨w3.heap.size, 8, none⟩ = some (.int .i64 xy.p22) := by go_simp
  have fb1_3 : w3.heap.size < w12.heap.size := by omega
  have BW1 : Below w.heap.size w w12 := by
    repeat (first | exact Below.refl _ _ | assumption | exact Below.alloc (Below.refl _ _) (Nat.le_refl _) _ | refine Below.setCell ?_ (by first | (simp; done) | (simp; omega) | omega) _ | refine below_drewN ?_ _ | refine Below.alloc ?_ (by first | (simp; done) | (simp; omega) | omega) _ | refine Below.trans ?_ (Below.mono (by assumption) (by first | (simp; done) | (simp; omega) | omega)))
  have fz5_0 : w12.cell? ⟨w5.heap.size, 0, none⟩ = some (.int .i64 z.x) := by go_simp
  have fz5_1 : w12.cell? ⟨w5.heap.size, 1, none⟩ = some (.int .i64 z.y) := by go_simp
  have fz5_2 : w12.cell? ⟨w5.heap.size, 2, none⟩ = some (.int .i64 z.z) := by go_simp
  have fz6_0 : w12.cell? ⟨w6.heap.size, 0, none⟩ = some (.int .i64 z.x) := by go_simp
  have fz6_1 : w12.cell? ⟨w6.heap.size, 1, none⟩ = some (.int .i64 z.y) := by go_simp
  have fz6_2 : w12.cell? ⟨w6.heap.size, 2, none⟩ = some (.int .i64 z.z) := by go_simp
  have fp0 : w12.cell? ⟨w11.heap.size, 0, none⟩ = some (.int .i64 d1) := by go_simp
  have fp1 : w12.cell? ⟨w11.heap.size, 1, none⟩ = some (.int .i64 0) := by go_simp
  have fp2 : w12.cell? ⟨w11.heap.size, 2, none⟩ = some (.int .i64 0) := by go_simp
  have fp3 : w12.cell? ⟨w11.heap.size, 3, none⟩ = some (.int .i64 0) := by go_simp
  have fp4 : w12.cell? ⟨w11.heap.size, 4, none⟩ = some (.int .i64 d1) := by go_simp
  have fp5 : w12.cell? ⟨w11.heap.size, 5, none⟩ = some (.int .i64 0) := by go_simp
  have fp6 : w12.cell? ⟨w11.heap.size, 6, none⟩ = some (.int .i64 0) := by go_simp
  have fp7 : w12.cell? ⟨w11.heap.size, 7, none⟩ = some (.int .i64 0) := by go_simp
  have fp8 : w12.cell? ⟨w11.heap.size, 8, none⟩ = some (.int .i64 d1) := by go_simp
  have g5 : w5.heap.size < w12.heap.size := by omega
  have g6 : w6.heap.size < w12.heap.size := by omega
  have g11 : w11.heap.size < w12.heap.size := by omega
  have gw : w.heap.size ≤ w12.heap.size := by omega
  try clear hb12 hc12 hf12 hz12
  try clear z12_0
  try clear z12_1
  try clear z12_2
  try clear z12_3
  try clear z12_4
  try clear z12_5
  try clear z12_6
  try clear z12_7
  try clear z12_8
  try clear z12_9
  try clear z12_10
  try clear z12_11
  try clear z12_12
  try clear z12_13
  try clear z12_14
  try clear z12_15
  try clear z12_16
  try clear z12_17
  try clear z12_18
  try clear z12_19
  try clear z12_20
  try clear z12_21
  try clear z12_22
  try clear z12_23
  try clear hb1
  try clear hc1
  try clear hf1
  try clear hz1
  try clear hb2
  try clear hc2
  try clear hf2
  try clear hz2
  try clear hb3
  try clear hc3
  try clear hf3
  try clear hz3
  try clear hb4
  try clear hc4
  try clear hf4
  try clear hz4
  try clear hb5
  try clear hc5
  try clear hf5
  try clear hz5
  try clear hb6
  try clear hc6
  try clear hf6
  try clear hz6
  try clear hb7
  try clear hc7
  try clear hf7
  try clear hz7
  try clear hb8
  try clear hc8
  try clear hf8
  try clear hz8
  try clear hb9
  try clear hc9
  try clear hf9
  try clear hz9
  try clear hb10
  try clear hc10
  try clear hf10
  try clear hz10
  try clear hb11
  try clear hc11
  try clear hf11
  try clear hz11
  try clear z1_0
  try clear z1_1
  try clear z1_2
  try clear z1_3
  try clear z1_4
  try clear z1_5
  try clear z1_6
  try clear z1_7
  try clear z1_8
  try clear z1_9
  try clear z1_10
  try clear z1_11
  try clear z1_12
  try clear z1_13
  try clear z1_14
  try clear z1_15
  try clear z1_16
  try clear z1_17
  try clear z1_18
  try clear z1_19
  try clear z1_20
  try clear z1_21
  try clear z1_22
  try clear z1_23
  try clear z2_0
  try clear z2_1
  try clear z2_2
  try clear z2_3
  try clear z2_4
  try clear z2_5
  try clear z2_6
  try clear z2_7
  try clear z2_8
  try clear z2_9
  try clear z2_10
  try clear z2_11
  try clear z2_12
  try clear z2_13
  try clear z2_14
  try clear z2_15
  try clear z2_16
  try clear z2_17
  try clear z2_18
  try clear z2_19
  try clear z2_20
  try clear z2_21
  try clear z2_22
  try clear z2_23
  try clear z3_0
  try clear z3_1
  try clear z3_2
  try clear z3_3
  try clear z3_4
  try clear z3_5
  try clear z3_6
  try clear z3_7
  try clear z3_8
  try clear z3_9
  try clear z3_10
  try clear z3_11
  try clear z3_12
  try clear z3_13
  try clear z3_14
  try clear z3_15
  try clear z3_16
  try clear z3_17
  try clear z3_18
  try clear z3_19
  try clear z3_20
  try clear z3_21
  try clear z3_22
  try clear z3_23
  try clear z4_0
  try clear z4_1
  try clear z4_2
  try clear z4_3
  try clear z4_4
  try clear z4_5
  try clear z4_6
  try clear z4_7
  try clear z4_8
  try clear z4_9
  try clear z4_10
  try clear z4_11
  try clear z4_12
  try clear z4_13
  try clear z4_14
  try clear z4_15
  try clear z4_16
  try clear z4_17
  try clear z4_18
  try clear z4_19
  try clear z4_20
  try clear z4_21
  try clear z4_22
  try clear z4_23
  try clear z5_0
  try clear z5_1
  try clear z5_2
  try clear z5_3
  try clear z5_4
  try clear z5_5
  try clear z5_6
  try clear z5_7
  try clear z5_8
  try clear z5_9
  try clear z5_10
  try clear z5_11
  try clear z5_12
  try clear z5_13
  try clear z5_14
  try clear z5_15
  try clear z5_16
  try clear z5_17
  try clear z5_18
  try clear z5_19
  try clear z5_20
  try clear z5_21
  try clear z5_22
  try clear z5_23
  try clear z6_0
  try clear z6_1
  try clear z6_2
  try clear z6_3
  try clear z6_4
  try clear z6_5
  try clear z6_6
  try clear z6_7
  try clear z6_8
  try clear z6_9
  try clear z6_10
  try clear z6_11
  try clear z6_12
  try clear z6_13
  try clear z6_14
  try clear z6_15
  try clear z6_16
  try clear z6_17
  try clear z6_18
  try clear z6_19
  try clear z6_20
  try clear z6_21
  try clear z6_22
  try clear z6_23
  try clear z7_0
  try clear z7_1
  try clear z7_2
  try clear z7_3
  try clear z7_4
  try clear z7_5
  try clear z7_6
  try clear z7_7
  try clear z7_8
  try clear z7_9
  try clear z7_10
  try clear z7_11
  try clear z7_12
  try clear z7_13
  try clear z7_14
  try clear z7_15
  try clear z7_16
  try clear z7_17
  try clear z7_18
  try clear z7_19
  try clear z7_20
  try clear z7_21
  try clear z7_22
  try clear z7_23
  try clear z8_0
  try clear z8_1
  try clear z8_2
  try clear z8_3
  try clear z8_4
  try clear z8_5
  try clear z8_6
  try clear z8_7
  try clear z8_8
  try clear z8_9
  try clear z8_10
  try clear z8_11
  try clear z8_12
  try clear z8_13
  try clear z8_14
  try clear z8_15
  try clear z8_16
  try clear z8_17
  try clear z8_18
  try clear z8_19
  try clear z8_20
  try clear z8_21
  try clear z8_22
  try clear z8_23
  try clear z9_0
  try clear z9_1
  try clear z9_2
  try clear z9_3
  try clear z9_4
  try clear z9_5
  try clear z9_6
  try clear z9_7
  try clear z9_8
  try clear z9_9
  try clear z9_10
  try clear z9_11
  try clear z9_12
  try clear z9_13
  try clear z9_14
  try clear z9_15
  try clear z9_16
  try clear z9_17
  try clear z9_18
  try clear z9_19
  try clear z9_20
  try clear z9_21
  try clear z9_22
  try clear z9_23
  try clear z10_0
  try clear z10_1
  try clear z10_2
  try clear z10_3
  try clear z10_4
  try clear z10_5
  try clear z10_6
  try clear z10_7
  try clear z10_8
  try clear z10_9
  try clear z10_10
  try clear z10_11
  try clear z10_12
  try clear z10_13
  try clear z10_14
  try clear z10_15
  try clear z10_16
  try clear z10_17
  try clear z10_18
  try clear z10_19
  try clear z10_20
  try clear z10_21
  try clear z10_22
  try clear z10_23
  try clear z11_0
  try clear z11_1
  try clear z11_2
  try clear z11_3
  try clear z11_4
  try clear z11_5
  try clear z11_6
  try clear z11_7
  try clear z11_8
  try clear z11_9
  try clear z11_10
  try clear z11_11
  try clear z11_12
  try clear z11_13
  try clear z11_14
  try clear z11_15
  try clear z11_16
  try clear z11_17
  try clear z11_18
  try clear z11_19
  try clear z11_20
  try clear z11_21
  try clear z11_22
  try clear z11_23
  try clear y1_0
  try clear y1_1
  try clear y1_2
  try clear y1_3
  try clear y1_4
  try clear y1_5
  try clear y1_6
  try clear y1_7
  try clear y1_8
  try clear y1_9
  try clear y1_10
  try clear y1_11
  try clear y1_12
  try clear y1_13
  try clear y1_14
  try clear y1_15
  try clear y1_16
  try clear y1_17
  try clear y1_18
  try clear y1_19
  try clear y1_20
  try clear y1_21
  try clear y1_22
  try clear y1_23
  try clear y2_0
  try clear y2_1
  try clear y2_2
  try clear y2_3
  try clear y2_4
  try clear y2_5
  try clear y2_6
  try clear y2_7
  try clear y2_8
  try clear y2_9
  try clear y2_10
  try clear y2_11
  try clear y2_12
  try clear y2_13
  try clear y2_14
  try clear y2_15
  try clear y2_16
  try clear y2_17
  try clear y2_18
  try clear y2_19
  try clear y2_20
  try clear y2_21
  try clear y2_22
  try clear y2_23
  try clear y3_0
  try clear y3_1
  try clear y3_2
  try clear y3_3
  try clear y3_4
  try clear y3_5
  try clear y3_6
  try clear y3_7
  try clear y3_8
  try clear y3_9
  try clear y3_10
  try clear y3_11
  try clear y3_12
  try clear y3_13
  try clear y3_14
  try clear y3_15
  try clear y3_16
  try clear y3_17
  try clear y3_18
  try clear y3_19
  try clear y3_20
  try clear y3_21
  try clear y3_22
  try clear y3_23
  try clear y4_0
  try clear y4_1
  try clear y4_2
  try clear y4_3
  try clear y4_4
  try clear y4_5
  try clear y4_6
  try clear y4_7
  try clear y4_8
  try clear y4_9
  try clear y4_10
  try clear y4_11
  try clear y4_12
  try clear y4_13
  try clear y4_14
  try clear y4_15
  try clear y4_16
  try clear y4_17
  try clear y4_18
  try clear y4_19
  try clear y4_20
  try clear y4_21
  try clear y4_22
  try clear y4_23
  try clear y5_0
  try clear y5_1
  try clear y5_2
  try clear y5_3
  try clear y5_4
  try clear y5_5
  try clear y5_6
  try clear y5_7
  try clear y5_8
  try clear y5_9
  try clear y5_10
  try clear y5_11
  try clear y5_12
  try clear y5_13
  try clear y5_14
  try clear y5_15
  try clear y5_16
  try clear y5_17
  try clear y5_18
  try clear y5_19
  try clear y5_20
  try clear y5_21
  try clear y5_22
  try clear y5_23
  try clear y6_0
  try clear y6_1
  try clear y6_2
  try clear y6_3
  try clear y6_4
  try clear y6_5
  try clear y6_6
  try clear y6_7
  try clear y6_8
  try clear y6_9
  try clear y6_10
  try clear y6_11
  try clear y6_12
  try clear y6_13
  try clear y6_14
  try clear y6_15
  try clear y6_16
  try clear y6_17
  try clear y6_18
  try clear y6_19
  try clear y6_20
  try clear y6_21
  try clear y6_22
  try clear y6_23
  try clear y7_0
  try clear y7_1
  try clear y7_2
  try clear y7_3
  try clear y7_4
  try clear y7_5
  try clear y7_6
  try clear y7_7
  try clear y7_8
  try clear y7_9
  try clear y7_10
  try clear y7_11
  try clear y7_12
  try clear y7_13
  try clear y7_14
  try clear y7_15
  try clear y7_16
  try clear y7_17
  try clear y7_18
  try clear y7_19
  try clear y7_20
  try clear y7_21
  try clear y7_22
  try clear y7_23
  try clear y8_0
  try clear y8_1
  try clear y8_2
  try clear y8_3
  try clear y8_4
  try clear y8_5
  try clear y8_6
  try clear y8_7
  try clear y8_8
  try clear y8_9
  try clear y8_10
  try clear y8_11
  try clear y8_12
  try clear y8_13
  try clear y8_14
  try clear y8_15
  try clear y8_16
  try clear y8_17
  try clear y8_18
  try clear y8_19
  try clear y8_20
  try clear y8_21
  try clear y8_22
  try clear y8_23
  try clear y9_0
  try clear y9_1
  try clear y9_2
  try clear y9_3
  try clear y9_4
  try clear y9_5
  try clear y9_6
  try clear y9_7
  try clear y9_8
  try clear y9_9
  try clear y9_10
  try clear y9_11
  try clear y9_12
  try clear y9_13
  try clear y9_14
  try clear y9_15
  try clear y9_16
  try clear y9_17
  try clear y9_18
  try clear y9_19
  try clear y9_20
  try clear y9_21
  try clear y9_22
  try clear y9_23
  try clear y10_0
  try clear y10_1
  try clear y10_2
  try clear y10_3
  try clear y10_4
  try clear y10_5
  try clear y10_6
  try clear y10_7
  try clear y10_8
  try clear y10_9
  try clear y10_10
  try clear y10_11
  try clear y10_12
  try clear y10_13
  try clear y10_14
  try clear y10_15
  try clear y10_16
  try clear y10_17
  try clear y10_18
  try clear y10_19
  try clear y10_20
  try clear y10_21
  try clear y10_22
  try clear y10_23
  try clear y11_0
  try clear y11_1
  try clear y11_2
  try clear y11_3
  try clear y11_4
  try clear y11_5
  try clear y11_6
  try clear y11_7
  try clear y11_8
  try clear y11_9
  try clear y11_10
  try clear y11_11
  try clear y11_12
  try clear y11_13
  try clear y11_14
  try clear y11_15
  try clear y11_16
  try clear y11_17
  try clear y11_18
  try clear y11_19
  try clear y11_20
  try clear y11_21
  try clear y11_22
  try clear y11_23
  try clear y12_0
  try clear y12_1
  try clear y12_2
  try clear y12_3
  try clear y12_4
  try clear y12_5
  try clear y12_6
  try clear y12_7
  try clear y12_8
  try clear y12_9
  try clear y12_10
  try clear y12_11
  try clear y12_12
  try clear y12_13
  try clear y12_14
  try clear y12_15
  try clear y12_16
  try clear y12_17
  try clear y12_18
  try clear y12_19
  try clear y12_20
  try clear y12_21
  try clear y12_22
  try clear y12_23
  go_wp2_with fail
  refine (XH13.out _).mono ?_
  rintro e w13 ⟨rfl, hb13⟩
  obtain ⟨hc13, hf13⟩ := bcell hb13
  have hz13 := hb13.size
  try simp at hz13
  have z13_0 : w1.heap.size < w13.heap.size := by omega
  have z13_1 : w2.heap.size < w13.heap.size := by omega
  have z13_2 : w2.heap.size + 1 < w13.heap.size := by omega
  have z13_3 : w3.heap.size < w13.heap.size := by omega
  have z13_4 : w12.heap.size < w13.heap.size := by omega
  have y13_0 : w1.heap.size < w12.heap.size + 1 := by omega
  have y13_1 : w2.heap.size < w12.heap.size + 1 := by omega
  have y13_2 : w2.heap.size + 1 < w12.heap.size + 1 := by omega
  have y13_3 : w3.heap.size < w12.heap.size + 1 := by omega
  try clear fz5_0 fz6_0 fz5_1 fz6_1 fz5_2 fz6_2 fp0 fp1 fp2 fp3 fp4 fp5 fp6 fp7 fp8 g5 g6 g11 e9
  go_wp2_with fail
  refine (XH14.out _).mono ?_
  rintro e w14 ⟨rfl, hb14⟩
  obtain ⟨hc14, hf14⟩ := bcell hb14
  have hz14 := hb14.size
  try simp at hz14
  have z14_0 : w1.heap.size < w14.heap.size := by omega
  have z14_1 : w2.heap.size < w14.heap.size := by omega
  have z14_2 : w2.heap.size + 1 < w14.heap.size := by omega
  have z14_3 : w3.heap.size < w14.heap.size := by omega
  have z14_4 : w12.heap.size < w14.heap.size := by omega
  have z14_5 : w13.heap.size < w14.heap.size := by omega
  have y14_0 : w1.heap.size < w13.heap.size + 1 := by omega
  have y14_1 : w2.heap.size < w13.heap.size + 1 := by omega
  have y14_2 : w2.heap.size + 1 < w13.heap.size + 1 := by omega
  have y14_3 : w3.heap.size < w13.heap.size + 1 := by omega
  have y14_4 : w12.heap.size < w13.heap.size + 1 := by omega
  go_wp2_with fail
  refine (XH15.out _).mono ?_
  rintro e w15 ⟨rfl, hb15⟩
  obtain ⟨hc15, hf15⟩ := bcell hb15
  have hz15 := hb15.size
  try simp at hz15
  have z15_0 : w1.heap.size < w15.heap.size := by omega
  have z15_1 : w2.heap.size < w15.heap.size := by omega
  have z15_2 : w2.heap.size + 1 < w15.heap.size := by omega
  have z15_3 : w3.heap.size < w15.heap.size := by omega
  have z15_4 : w12.heap.size < w15.heap.size := by omega
  have z15_5 : w13.heap.size < w15.heap.size := by omega
  have z15_6 : w14.heap.size < w15.heap.size := by omega
  have y15_0 : w1.heap.size < w14.heap.size + 1 := by omega
  have y15_1 : w2.heap.size < w14.heap.size + 1 := by omega
  have y15_2 : w2.heap.size + 1 < w14.heap.size + 1 := by omega
  have y15_3 : w3.heap.size < w14.heap.size + 1 := by omega
  have y15_4 : w12.heap.size < w14.heap.size + 1 := by omega
  have y15_5 : w13.heap.size < w14.heap.size + 1 := by omega
  go_wp2_with fail
  refine (XH16.out _).mono ?_
  rintro e w16 ⟨rfl, hb16⟩
  obtain ⟨hc16, hf16⟩ := bcell hb16
  have hz16 := hb16.size
  try simp at hz16
  have z16_0 : w1.heap.size < w16.heap.size := by omega
  have z16_1 : w2.heap.size < w16.heap.size := by omega
  have z16_2 : w2.heap.size + 1 < w16.heap.size := by omega
  have z16_3 : w3.heap.size < w16.heap.size := by omega
  have z16_4 : w12.heap.size < w16.heap.size := by omega
  have z16_5 : w13.heap.size < w16.heap.size := by omega
  have z16_6 : w14.heap.size < w16.heap.size := by omega
  have z16_7 : w15.heap.size < w16.heap.size := by omega
  have y16_0 : w1.heap.size < w15.heap.size + 1 := by omega
  have y16_1 : w2.heap.size < w15.heap.size + 1 := by omega
  have y16_2 : w2.heap.size + 1 < w15.heap.size + 1 := by omega
  have y16_3 : w3.heap.size < w15.heap.size + 1 := by omega
  have y16_4 : w12.heap.size < w15.heap.size + 1 := by omega
  have y16_5 : w13.heap.size < w15.heap.size + 1 := by omega
  have y16_6 : w14.heap.size < w15.heap.size + 1 := by omega
  go_wp2_with fail
  refine (XH17.out _).mono ?_
  rintro e w17 ⟨rfl, hb17⟩
  obtain ⟨hc17, hf17⟩ := bcell hb17
  have hz17 := hb17.size
  try simp at hz17
  have z17_0 : w1.heap.size < w17.heap.size := by omega
  have z17_1 : w2.heap.size < w17.heap.size := by omega
  have z17_2 : w2.heap.size + 1 < w17.heap.size := by omega
  have z17_3 : w3.heap.size < w17.heap.size := by omega
  have z17_4 : w12.heap.size < w17.heap.size := by omega
  have z17_5 : w13.heap.size < w17.heap.size := by omega
  have z17_6 : w14.heap.size < w17.heap.size := by omega
  have z17_7 : w15.heap.size < w17.heap.size := by omega
  have z17_8 : w16.heap.size < w17.heap.size := by omega
  have y17_0 : w1.heap.size < w16.heap.size + 1 := by omega
  have y17_1 : w2.heap.size < w16.heap.size + 1 := by omega
  have y17_2 : w2.heap.size + 1 < w16.heap.size + 1 := by omega
  have y17_3 : w3.heap.size < w16.heap.size + 1 := by omega
  have y17_4 : w12.heap.size < w16.heap.size + 1 := by omega
  have y17_5 : w13.heap.size < w16.heap.size + 1 := by omega
  have y17_6 : w14.heap.size < w16.heap.size + 1 := by omega
  have y17_7 : w15.heap.size < w16.heap.size + 1 := by omega
  go_wp2_with fail
  refine (XH18.out _).mono ?_
  rintro e w18 ⟨rfl, hb18⟩
  obtain ⟨hc18, hf18⟩ := bcell hb18
  have hz18 := hb18.size
  try simp at hz18
  have z18_0 : w1.heap.size < w18.heap.size := by omega
  have z18_1 : w2.heap.size < w18.heap.size := by omega
  have z18_2 : w2.heap.size + 1 < w18.heap.size := by omega
  have z18_3 : w3.heap.size < w18.heap.size := by omega
  have z18_4 : w12.heap.size < w18.heap.size := by omega
  have z18_5 : w13.heap.size < w18.heap.size := by omega
  have z18_6 : w14.heap.size < w18.heap.size := by omega
  have z18_7 : w15.heap.size < w18.heap.size := by omega
  have z18_8 : w16.heap.size < w18.heap.size := by omega
  have z18_9 : w17.heap.size < w18.heap.size := by omega
  have y18_0 : w1.heap.size < w17.heap.size + 1 := by omega
  have y18_1 : w2.heap.size < w17.heap.size + 1 := by omega
  have y18_2 : w2.heap.size + 1 < w17.heap.size + 1 := by omega
  have y18_3 : w3.heap.size < w17.heap.size + 1 := by omega
  have y18_4 : w12.heap.size < w17.heap.size + 1 := by omega
  have y18_5 : w13.heap.size < w17.heap.size + 1 := by omega
  have y18_6 : w14.heap.size < w17.heap.size + 1 := by omega
  have y18_7 : w15.heap.size < w17.heap.size + 1 := by omega
  have y18_8 : w16.heap.size < w17.heap.size + 1 := by omega
  have BX : Below w.heap.size w w18 := by
    repeat (first | exact Below.refl _ _ | assumption | exact Below.alloc (Below.refl _ _) (Nat.le_refl _) _ | refine Below.setCell ?_ (by first | (simp; done) | (simp; omega) | omega) _ | refine below_drewN ?_ _ | refine Below.alloc ?_ (by first | (simp; done) | (simp; omega) | omega) _ | refine Below.trans ?_ (Below.mono (by assumption) (by first | (simp; done) | (simp; omega) | omega)))
  have gx : w.heap.size ≤ w18.heap.size := by omega
  try clear BW1 gw
  try clear hb12
  try clear hc12
  try clear hf12
  try clear hz12
  try clear hb13
  try clear hc13
  try clear hf13
  try clear hz13
  try clear hb14
  try clear hc14
  try clear hf14
  try clear hz14
  try clear hb15
  try clear hc15
  try clear hf15
  try clear hz15
  try clear hb16
  try clear hc16
  try clear hf16
  try clear hz16
  try clear hb17
  try clear hc17
  try clear hf17
  try clear hz17
  try clear hb18
  try clear hc18
  try clear hf18
  try clear hz18
  try clear z12_0
  try clear z12_1
  try clear z12_2
  try clear z12_3
  try clear z12_4
  try clear z12_5
  try clear z12_6
  try clear z12_7
  try clear z12_8
  try clear z12_9
  try clear z12_10
  try clear z12_11
  try clear z12_12
  try clear z12_13
  try clear z12_14
  try clear z12_15
  try clear z12_16
  try clear z12_17
  try clear z12_18
  try clear z12_19
  try clear z12_20
  try clear z12_21
  try clear z12_22
  try clear z12_23
  try clear z13_0
  try clear z13_1
  try clear z13_2
  try clear z13_3
  try clear z13_4
  try clear z13_5
  try clear z13_6
  try clear z13_7
  try clear z13_8
  try clear z13_9
  try clear z13_10
  try clear z13_11
  try clear z13_12
  try clear z13_13
  try clear z13_14
  try clear z13_15
  try clear z13_16
  try clear z13_17
  try clear z13_18
  try clear z13_19
  try clear z13_20
  try clear z13_21
  try clear z13_22
  try clear z13_23
  try clear z14_0
  try clear z14_1
  try clear z14_2
  try clear z14_3
  try clear z14_4
  try clear z14_5
  try clear z14_6
  try clear z14_7
  try clear z14_8
  try clear z14_9
  try clear z14_10
  try clear z14_11
  try clear z14_12
  try clear z14_13
  try clear z14_14
  try clear z14_15
  try clear z14_16
  try clear z14_17
  try clear z14_18
  try clear z14_19
  try clear z14_20
  try clear z14_21
  try clear z14_22
  try clear z14_23
  try clear z15_0
  try clear z15_1
  try clear z15_2
  try clear z15_3
  try clear z15_4
  try clear z15_5
  try clear z15_6
  try clear z15_7
  try clear z15_8
  try clear z15_9
  try clear z15_10
  try clear z15_11
  try clear z15_12
  try clear z15_13
  try clear z15_14
  try clear z15_15
  try clear z15_16
  try clear z15_17
  try clear z15_18
  try clear z15_19
  try clear z15_20
  try clear z15_21
  try clear z15_22
  try clear z15_23
  try clear z16_0
  try clear z16_1
  try clear z16_2
  try clear z16_3
  try clear z16_4
  try clear z16_5
  try clear z16_6
  try clear z16_7
  try clear z16_8
  try clear z16_9
  try clear z16_10
  try clear z16_11
  try clear z16_12
  try clear z16_13
  try clear z16_14
  try clear z16_15
  try clear z16_16
  try clear z16_17
  try clear z16_18
  try clear z16_19
  try clear z16_20
  try clear z16_21
  try clear z16_22
  try clear z16_23
  try clear z17_0
  try clear z17_1
  try clear z17_2
  try clear z17_3
  try clear z17_4
  try clear z17_5
  try clear z17_6
  try clear z17_7
  try clear z17_8
  try clear z17_9
  try clear z17_10
  try clear z17_11
  try clear z17_12
  try clear z17_13
  try clear z17_14
  try clear z17_15
  try clear z17_16
  try clear z17_17
  try clear z17_18
  try clear z17_19
  try clear z17_20
  try clear z17_21
  try clear z17_22
  try clear z17_23
  try clear z18_0
  try clear z18_1
  try clear z18_2
  try clear z18_3
  try clear z18_4
  try clear z18_5
  try clear z18_6
  try clear z18_7
  try clear z18_8
  try clear z18_9
  try clear z18_10
  try clear z18_11
  try clear z18_12
  try clear z18_13
  try clear z18_14
  try clear z18_15
  try clear z18_16
  try clear z18_17
  try clear z18_18
  try clear z18_19
  try clear z18_20
  try clear z18_21
  try clear z18_22
  try clear z18_23
  try clear y12_0
  try clear y12_1
  try clear y12_2
  try clear y12_3
  try clear y12_4
  try clear y12_5
  try clear y12_6
  try clear y12_7
  try clear y12_8
  try clear y12_9
  try clear y12_10
  try clear y12_11
  try clear y12_12
  try clear y12_13
  try clear y12_14
  try clear y12_15
  try clear y12_16
  try clear y12_17
  try clear y12_18
  try clear y12_19
  try clear y12_20
  try clear y12_21
  try clear y12_22
  try clear y12_23
  try clear y13_0
  try clear y13_1
  try clear y13_2
  try clear y13_3
  try clear y13_4
  try clear y13_5
  try clear y13_6
  try clear y13_7
  try clear y13_8
  try clear y13_9
  try clear y13_10
  try clear y13_11
  try clear y13_12
  try clear y13_13
  try clear y13_14
  try clear y13_15
  try clear y13_16
  try clear y13_17
  try clear y13_18
  try clear y13_19
  try clear y13_20
  try clear y13_21
  try clear y13_22
  try clear y13_23
  try clear y14_0
  try clear y14_1
  try clear y14_2
  try clear y14_3
  try clear y14_4
  try clear y14_5
  try clear y14_6
  try clear y14_7
  try clear y14_8
  try clear y14_9
  try clear y14_10
  try clear y14_11
  try clear y14_12
  try clear y14_13
  try clear y14_14
  try clear y14_15
  try clear y14_16
  try clear y14_17
  try clear y14_18
  try clear y14_19
  try clear y14_20
  try clear y14_21
  try clear y14_22
  try clear y14_23
  try clear y15_0
  try clear y15_1
  try clear y15_2
  try clear y15_3
  try clear y15_4
  try clear y15_5
  try clear y15_6
  try clear y15_7
  try clear y15_8
  try clear y15_9
  try clear y15_10
  try clear y15_11
  try clear y15_12
  try clear y15_13
  try clear y15_14
  try clear y15_15
  try clear y15_16
  try clear y15_17
  try clear y15_18
  try clear y15_19
  try clear y15_20
  try clear y15_21
  try clear y15_22
  try clear y15_23
  try clear y16_0
  try clear y16_1
  try clear y16_2
  try clear y16_3
  try clear y16_4
  try clear y16_5
  try clear y16_6
  try clear y16_7
  try clear y16_8
  try clear y16_9
  try clear y16_10
  try clear y16_11
  try clear y16_12
  try clear y16_13
  try clear y16_14
  try clear y16_15
  try clear y16_16
  try clear y16_17
  try clear y16_18
  try clear y16_19
  try clear y16_20
  try clear y16_21
  try clear y16_22
  try clear y16_23
  try clear y17_0
  try clear y17_1
  try clear y17_2
  try clear y17_3
  try clear y17_4
  try clear y17_5
  try clear y17_6
  try clear y17_7
  try clear y17_8
  try clear y17_9
  try clear y17_10
  try clear y17_11
  try clear y17_12
  try clear y17_13
  try clear y17_14
  try clear y17_15
  try clear y17_16
  try clear y17_17
  try clear y17_18
  try clear y17_19
  try clear y17_20
  try clear y17_21
  try clear y17_22
  try clear y17_23
  try clear y18_0
  try clear y18_1
  try clear y18_2
  try clear y18_3
  try clear y18_4
  try clear y18_5
  try clear y18_6
  try clear y18_7
  try clear y18_8
  try clear y18_9
  try clear y18_10
  try clear y18_11
  try clear y18_12
  try clear y18_13
  try clear y18_14
  try clear y18_15
  try clear y18_16
  try clear y18_17
  try clear y18_18
  try clear y18_19
  try clear y18_20
  try clear y18_21
  try clear y18_22
  try clear y18_23
  try clear fc1_0_0
  try clear fc1_0_1
  try clear fc1_0_2
  try clear fc1_0_3
  try clear fc1_0_4
  try clear fc1_0_5
  try clear fc1_0_6
  try clear fc1_0_7
  try clear fc1_0_8
  try clear fc1_1_0
  try clear fc1_1_1
  try clear fc1_1_2
  try clear fc1_1_3
  try clear fc1_1_4
  try clear fc1_1_5
  try clear fc1_1_6
  try clear fc1_1_7
  try clear fc1_1_8
  try clear fc1_2_0
  try clear fc1_2_1
  try clear fc1_2_2
  try clear fc1_2_3
  try clear fc1_2_4
  try clear fc1_2_5
  try clear fc1_2_6
  try clear fc1_2_7
  try clear fc1_2_8
  try clear fc1_3_0
  try clear fc1_3_1
  try clear fc1_3_2
  try clear fc1_3_3
  try clear fc1_3_4
  try clear fc1_3_5
  try clear fc1_3_6
  try clear fc1_3_7
  try clear fc1_3_8
  try clear fb1_0
  try clear fb1_1
  try clear fb1_2
  try clear fb1_3
  go_wp2_with fail
  refine (XH19.out _).mono ?_
  rintro e w19 ⟨rfl, hb19⟩
  obtain ⟨hc19, hf19⟩ := bcell hb19
  have hz19 := hb19.size
  try simp at hz19
  have z19_0 : w18.heap.size < w19.heap.size := by omega
  go_wp2_with fail
  refine (XH20.out _).mono ?_
  rintro e w20 ⟨rfl, hb20⟩
  obtain ⟨hc20, hf20⟩ := bcell hb20
  have hz20 := hb20.size
  try simp at hz20
  have z20_0 : w18.heap.size < w20.heap.size := by omega
  go_wp2_with fail
  refine (XH21.out _).mono ?_
  rintro e w21 ⟨rfl, hb21⟩
  obtain ⟨hc21, hf21⟩ := bcell hb21
  have hz21 := hb21.size
  try simp at hz21
  have z21_0 : w18.heap.size < w21.heap.size := by omega
  have z21_1 : w20.heap.size < w21.heap.size := by omega
  have y21_0 : w18.heap.size < w20.heap.size + 1 := by omega
  go_wp2_with fail
  refine (XH22.out _).mono ?_
  rintro e w22 ⟨rfl, hb22⟩
  obtain ⟨hc22, hf22⟩ := bcell hb22
  have hz22 := hb22.size
  try simp at hz22
  have z22_0 : w18.heap.size < w22.heap.size := by omega
  have z22_1 : w20.heap.size < w22.heap.size := by omega
  have z22_2 : w21.heap.size < w22.heap.size := by omega
  have y22_0 : w18.heap.size < w21.heap.size + 1 := by omega
  have y22_1 : w20.heap.size < w21.heap.size + 1 := by omega
  go_wp2
  have zzv1_0 : w18.heap.size < w22.heap.size := by omega
  have zzv1_1 : w20.heap.size < w22.heap.size := by omega
  have zzv1_2 : w21.heap.size < w22.heap.size := by omega
  refine region_all (by kernel_rfl) (by kernel_rfl) ?_
  repeat (go_big_quiet_step ((go_at_call 10; exact held_of _ (Nat.le_refl _) (identity_any _))))
  refine wpQuiet_nil ?_
  rintro v1 ⟨⟨w0, hbv1⟩, rfl⟩
  obtain ⟨hcv1, hfv1⟩ := bcell hbv1
  have hzv1 := hbv1.size
  try simp at hzv1
  have zv1_0 : w18.heap.size < v1.heap.size := by omega
  have zv1_1 : w20.heap.size < v1.heap.size := by omega
  have zv1_2 : w21.heap.size < v1.heap.size := by omega
  go_wp2
  have BV : Below w.heap.size w v1 := by
    repeat (first | exact Below.refl _ _ | assumption | exact Below.alloc (Below.refl _ _) (Nat.le_refl _) _ | refine Below.setCell ?_ (by first | (simp; done) | (simp; omega) | omega) _ | refine below_drewN ?_ _ | refine Below.alloc ?_ (by first | (simp; done) | (simp; omega) | omega) _ | refine Below.trans ?_ (Below.mono (by assumption) (by first | (simp; done) | (simp; omega) | omega)))
  go_loopw [51] (fun i wr => ∃ J : Nat, 1 ≤ J ∧ J ≤ n ∧ i = .int .i64 J ∧ WI w w.heap.size w18.heap.size v1.heap.size g (pwG g (J - 1)) wr) (fun i _ => n - (intOf i).toNat)
  case atStart =>
    refine ⟨1, by omega, by omega, rfl, ?_⟩
    show WI _ _ _ _ _ g _
    constructor
    · repeat (first | exact Below.refl _ _ | assumption | exact Below.alloc (Below.refl _ _) (Nat.le_refl _) _ | refine Below.setCell ?_ (by first | (simp; done) | (simp; omega) | omega) _ | refine below_drewN ?_ _ | refine Below.alloc ?_ (by first | (simp; done) | (simp; omega) | omega) _ | refine Below.trans ?_ (Below.mono (by assumption) (by first | (simp; done) | (simp; omega) | omega)))
    · first | (simp; done) | (simp; omega) | omega
    · omega
    · intro o; go_simp
    all_goals first | (go_simp; done) | (go_simp; rfl)
  case round =>
    obtain ⟨J, hJ, hJn, rfl, hinv⟩ := hrel
    clear BV
    try clear BX
    try clear hb20
    try clear hc20
    try clear hf20
    try clear hz20
    try clear hb21
    try clear hc21
    try clear hf21
    try clear hz21
    try clear hb22
    try clear hc22
    try clear hf22
    try clear hz22
    try clear hbv1
    try clear hcv1
    try clear hfv1
    try clear hzv1
    try clear hb19
    try clear hc19
    try clear hf19
    try clear hz19
    obtain ⟨below, zw, zg, fz, g0, c0, g1, c1, g2, c2, g3, c3, g4, c4, g5, c5, g6, c6, g7, c7, g8, c8⟩ := hinv
    have zb := below.size
    have q0 : w18.heap.size < wr.heap.size := by omega
    have q1 : w.heap.size ≤ wr.heap.size := by omega
    obtain ⟨x_, hx⟩ : ∃ q, pwG g (J - 1) = q := ⟨_, rfl⟩
    rw [hx] at c0 c1 c2 c3 c4 c5 c6 c7 c8
    have eb := beq_one x_
    by_cases hlt : J < n
    · have hne : decide (x_ = one) = false := decide_eq_false (by rw [← hx]; exact XW.out (J - 1) (by omega))
      rw [hne] at eb
      have hst := pwG_step g J hJ
      rw [hx] at hst
      obtain ⟨y_, hy_⟩ : ∃ q, mulW x_ g = q := ⟨_, rfl⟩
      have HT := XHt.out x_
      rw [hy_] at HT hst
      clear hne hx hy_
      go_wp2
      refine region_all (by kernel_rfl) (by kernel_rfl) ?_
      repeat (go_big_quiet_step ((go_at_call 10; exact held_of _ (Nat.le_refl _) (identity_any _))))
      refine wpQuiet_nil ?_
      rintro v2 ⟨⟨w0, hbv2⟩, rfl⟩
      obtain ⟨hcv2, hfv2⟩ := bcell hbv2
      have hzv2 := hbv2.size
      try simp at hzv2
      have zv2_0 : w18.heap.size < v2.heap.size := by omega
      have zv2_1 : v1.heap.size < v2.heap.size := by omega
      clear eb
      go_wp2_with fail
      refine (HT _).mono ?_
      rintro e w31 ⟨rfl, hb31⟩
      obtain ⟨hc31, hf31⟩ := bcell hb31
      have hz31 := hb31.size
      try simp at hz31
      have z31_0 : w18.heap.size < w31.heap.size := by omega
      have z31_1 : v1.heap.size < w31.heap.size := by omega
      go_wp2
      go_roundw
      case rel =>
        refine ⟨J + 1, by omega, by omega, by go_num, ?_⟩
        rw [hst]
        constructor
        · repeat (first | exact Below.refl _ _ | assumption | exact Below.alloc (Below.refl _ _) (Nat.le_refl _) _ | refine Below.setCell ?_ (by first | (simp; done) | (simp; omega) | omega) _ | refine below_drewN ?_ _ | refine Below.alloc ?_ (by first | (simp; done) | (simp; omega) | omega) _ | refine Below.trans ?_ (Below.mono (by assumption) (by first | (simp; done) | (simp; omega) | omega)))
        · first | (simp; done) | (simp; omega) | omega
        · omega
        · intro o; go_simp
        all_goals first | (go_simp; done) | (go_simp; rfl)
      case measure => simp [intOf] <;> omega
    · obtain rfl : n = J := by omega
      have hne : decide (x_ = one) = true := decide_eq_true (by rw [← hx]; exact XQ.out)
      rw [hne] at eb
      clear hne hx hlt hJn hJ
      rcases hn with rfl | rfl | rfl | rfl | rfl
      · go_wp2_with fail
        refine (Order_shear _).mono ?_
        rintro e w41 ⟨rfl, hb41⟩
        obtain ⟨hc41, hf41⟩ := bcell hb41
        have hz41 := hb41.size
        try simp at hz41
        have z41_0 : w18.heap.size < w41.heap.size := by omega
        have z41_1 : v1.heap.size < w41.heap.size := by omega
        go_wp2
        refine region_all (by kernel_rfl) (by kernel_rfl) ?_
        repeat (go_big_quiet_step ((go_at_call 10; exact held_of _ (Nat.le_refl _) (identity_any _))))
        refine wpQuiet_nil ?_
        rintro v3 ⟨⟨w0, hbv3⟩, rfl⟩
        obtain ⟨hcv3, hfv3⟩ := bcell hbv3
        have hzv3 := hbv3.size
        try simp at hzv3
        have zv3_0 : w18.heap.size < v3.heap.size := by omega
        have zv3_1 : v1.heap.size < v3.heap.size := by omega
        go_wp2
        go_ret
        refine ⟨rfl, ?_⟩
        repeat (first | exact Below.refl _ _ | assumption | exact Below.alloc (Below.refl _ _) (Nat.le_refl _) _ | refine Below.setCell ?_ (by first | (simp; done) | (simp; omega) | omega) _ | refine below_drewN ?_ _ | refine Below.alloc ?_ (by first | (simp; done) | (simp; omega) | omega) _ | refine Below.trans ?_ (Below.mono (by assumption) (by first | (simp; done) | (simp; omega) | omega)))
      · go_wp2_with fail
        refine (Order_shear _).mono ?_
        rintro e w41 ⟨rfl, hb41⟩
        obtain ⟨hc41, hf41⟩ := bcell hb41
        have hz41 := hb41.size
        try simp at hz41
        have z41_0 : w18.heap.size < w41.heap.size := by omega
        have z41_1 : v1.heap.size < w41.heap.size := by omega
        go_wp2
        refine region_all (by kernel_rfl) (by kernel_rfl) ?_
        repeat (go_big_quiet_step ((go_at_call 10; exact held_of _ (Nat.le_refl _) (identity_any _))))
        refine wpQuiet_nil ?_
        rintro v3 ⟨⟨w0, hbv3⟩, rfl⟩
        obtain ⟨hcv3, hfv3⟩ := bcell hbv3
        have hzv3 := hbv3.size
        try simp at hzv3
        have zv3_0 : w18.heap.size < v3.heap.size := by omega
        have zv3_1 : v1.heap.size < v3.heap.size := by omega
        go_wp2
        go_ret
        refine ⟨rfl, ?_⟩
        repeat (first | exact Below.refl _ _ | assumption | exact Below.alloc (Below.refl _ _) (Nat.le_refl _) _ | refine Below.setCell ?_ (by first | (simp; done) | (simp; omega) | omega) _ | refine below_drewN ?_ _ | refine Below.alloc ?_ (by first | (simp; done) | (simp; omega) | omega) _ | refine Below.trans ?_ (Below.mono (by assumption) (by first | (simp; done) | (simp; omega) | omega)))
      · go_wp2_with fail
        refine (Order_shear _).mono ?_
        rintro e w41 ⟨rfl, hb41⟩
        obtain ⟨hc41, hf41⟩ := bcell hb41
        have hz41 := hb41.size
        try simp at hz41
        have z41_0 : w18.heap.size < w41.heap.size := by omega
        have z41_1 : v1.heap.size < w41.heap.size := by omega
        go_wp2
        refine region_all (by kernel_rfl) (by kernel_rfl) ?_
        repeat (go_big_quiet_step ((go_at_call 10; exact held_of _ (Nat.le_refl _) (identity_any _))))
        refine wpQuiet_nil ?_
        rintro v3 ⟨⟨w0, hbv3⟩, rfl⟩
        obtain ⟨hcv3, hfv3⟩ := bcell hbv3
        have hzv3 := hbv3.size
        try simp at hzv3
        have zv3_0 : w18.heap.size < v3.heap.size := by omega
        have zv3_1 : v1.heap.size < v3.heap.size := by omega
        go_wp2
        go_ret
        refine ⟨rfl, ?_⟩
        repeat (first | exact Below.refl _ _ | assumption | exact Below.alloc (Below.refl _ _) (Nat.le_refl _) _ | refine Below.setCell ?_ (by first | (simp; done) | (simp; omega) | omega) _ | refine below_drewN ?_ _ | refine Below.alloc ?_ (by first | (simp; done) | (simp; omega) | omega) _ | refine Below.trans ?_ (Below.mono (by assumption) (by first | (simp; done) | (simp; omega) | omega)))
      · go_wp2_with fail
        refine (Order_shear _).mono ?_
        rintro e w41 ⟨rfl, hb41⟩
        obtain ⟨hc41, hf41⟩ := bcell hb41
        have hz41 := hb41.size
        try simp at hz41
        have z41_0 : w18.heap.size < w41.heap.size := by omega
        have z41_1 : v1.heap.size < w41.heap.size := by omega
        go_wp2
        refine region_all (by kernel_rfl) (by kernel_rfl) ?_
        repeat (go_big_quiet_step ((go_at_call 10; exact held_of _ (Nat.le_refl _) (identity_any _))))
        refine wpQuiet_nil ?_
        rintro v3 ⟨⟨w0, hbv3⟩, rfl⟩
        obtain ⟨hcv3, hfv3⟩ := bcell hbv3
        have hzv3 := hbv3.size
        try simp at hzv3
        have zv3_0 : w18.heap.size < v3.heap.size := by omega
        have zv3_1 : v1.heap.size < v3.heap.size := by omega
        go_wp2
        go_ret
        refine ⟨rfl, ?_⟩
        repeat (first | exact Below.refl _ _ | assumption | exact Below.alloc (Below.refl _ _) (Nat.le_refl _) _ | refine Below.setCell ?_ (by first | (simp; done) | (simp; omega) | omega) _ | refine below_drewN ?_ _ | refine Below.alloc ?_ (by first | (simp; done) | (simp; omega) | omega) _ | refine Below.trans ?_ (Below.mono (by assumption) (by first | (simp; done) | (simp; omega) | omega)))
      · go_wp2_with fail
        refine (Order_shear _).mono ?_
        rintro e w41 ⟨rfl, hb41⟩
        obtain ⟨hc41, hf41⟩ := bcell hb41
        have hz41 := hb41.size
        try simp at hz41
        have z41_0 : w18.heap.size < w41.heap.size := by omega
        have z41_1 : v1.heap.size < w41.heap.size := by omega
        go_wp2
        refine region_all (by kernel_rfl) (by kernel_rfl) ?_
        repeat (go_big_quiet_step ((go_at_call 10; exact held_of _ (Nat.le_refl _) (identity_any _))))
        refine wpQuiet_nil ?_
        rintro v3 ⟨⟨w0, hbv3⟩, rfl⟩
        obtain ⟨hcv3, hfv3⟩ := bcell hbv3
        have hzv3 := hbv3.size
        try simp at hzv3
        have zv3_0 : w18.heap.size < v3.heap.size := by omega
        have zv3_1 : v1.heap.size < v3.heap.size := by omega
        go_wp2
        go_ret
        refine ⟨rfl, ?_⟩
        repeat (first | exact Below.refl _ _ | assumption | exact Below.alloc (Below.refl _ _) (Nat.le_refl _) _ | refine Below.setCell ?_ (by first | (simp; done) | (simp; omega) | omega) _ | refine below_drewN ?_ _ | refine Below.alloc ?_ (by first | (simp; done) | (simp; omega) | omega) _ | refine Below.trans ?_ (Below.mono (by assumption) (by first | (simp; done) | (simp; omega) | omega)))

end Go.Proofs.Ytjghhgapacnpeaa
