/-
  The law WholeMatrices: it returns true.
-/
import Derived.Test.YtjghhgapacnpeaaLawMS
import Derived.Test.YtjghhgapacnpeaaLawMX
import Derived.Test.YtjghhgapacnpeaaLawM1
namespace Go.Proofs.Ytjghhgapacnpeaa
open Go.RowKit
attribute [local irreducible] World.setCell

set_option linter.unusedSimpArgs false
set_option linter.unusedVariables false

theorem tmod_11 (x : Int) : -11 ≤ x.tmod 12 ∧ x.tmod 12 ≤ 11 := by
  have h1 := Int.lt_tmod_of_pos x (show (0:Int) < 12 by decide)
  have h2 := Int.tmod_lt_of_pos x (show (0:Int) < 12 by decide)
  omega
set_option maxRecDepth 100000 in
theorem matrices_any (a0 a1 a2 a3 a4 a5 a6 a7 a8 b0 b1 b2 b3 b4 b5 b6 b7 b8 u0 u1 u2 k : Int) (a0_b : -128 ≤ a0 ∧ a0 ≤ 127) (a1_b : -128 ≤ a1 ∧ a1 ≤ 127) (a2_b : -128 ≤ a2 ∧ a2 ≤ 127) (a3_b : -128 ≤ a3 ∧ a3 ≤ 127) (a4_b : -128 ≤ a4 ∧ a4 ≤ 127) (a5_b : -128 ≤ a5 ∧ a5 ≤ 127) (a6_b : -128 ≤ a6 ∧ a6 ≤ 127) (a7_b : -128 ≤ a7 ∧ a7 ≤ 127) (a8_b : -128 ≤ a8 ∧ a8 ≤ 127) (b0_b : -128 ≤ b0 ∧ b0 ≤ 127) (b1_b : -128 ≤ b1 ∧ b1 ≤ 127) (b2_b : -128 ≤ b2 ∧ b2 ≤ 127) (b3_b : -128 ≤ b3 ∧ b3 ≤ 127) (b4_b : -128 ≤ b4 ∧ b4 ≤ 127) (b5_b : -128 ≤ b5 ∧ b5 ≤ 127) (b6_b : -128 ≤ b6 ∧ b6 ≤ 127) (b7_b : -128 ≤ b7 ∧ b7 ≤ 127) (b8_b : -128 ≤ b8 ∧ b8 ≤ 127) (u0_b : -32768 ≤ u0 ∧ u0 ≤ 32767) (u1_b : -32768 ≤ u1 ∧ u1 ≤ 32767) (u2_b : -32768 ≤ u2 ∧ u2 ≤ 32767) (k_b : 0 ≤ k ∧ k ≤ 255) (hex : Bool) (w : World) : Calls Try.prog 3 #[.agg #[.int .i8 a0, .int .i8 a1, .int .i8 a2, .int .i8 a3, .int .i8 a4, .int .i8 a5, .int .i8 a6, .int .i8 a7, .int .i8 a8], .agg #[.int .i8 b0, .int .i8 b1, .int .i8 b2, .int .i8 b3, .int .i8 b4, .int .i8 b5, .int .i8 b6, .int .i8 b7, .int .i8 b8], .agg #[.int .i16 u0, .int .i16 u1, .int .i16 u2], .int .u8 k, .bool hex] w fun e w' => e = .returned (.bool true) ∧ Below w.heap.size w w' := by
  obtain ⟨x, ex⟩ : ∃ x : Mt, x = ⟨a0.tmod 12, a1.tmod 12, a2.tmod 12, a3.tmod 12, a4.tmod 12, a5.tmod 12, a6.tmod 12, a7.tmod 12, a8.tmod 12⟩ := ⟨_, rfl⟩
  obtain ⟨y, ey⟩ : ∃ x : Mt, x = ⟨b0.tmod 12, b1.tmod 12, b2.tmod 12, b3.tmod 12, b4.tmod 12, b5.tmod 12, b6.tmod 12, b7.tmod 12, b8.tmod 12⟩ := ⟨_, rfl⟩
  have x11 : In11 x := by rw [ex]; exact ⟨tmod_11 a0, tmod_11 a1, tmod_11 a2, tmod_11 a3, tmod_11 a4, tmod_11 a5, tmod_11 a6, tmod_11 a7, tmod_11 a8⟩
  have y11 : In11 y := by rw [ey]; exact ⟨tmod_11 b0, tmod_11 b1, tmod_11 b2, tmod_11 b3, tmod_11 b4, tmod_11 b5, tmod_11 b6, tmod_11 b7, tmod_11 b8⟩
  have Ha : ∀ w, Calls Try.prog 5 #[.agg #[.int .i8 a0, .int .i8 a1, .int .i8 a2, .int .i8 a3, .int .i8 a4, .int .i8 a5, .int .i8 a6, .int .i8 a7, .int .i8 a8]] w fun e w' => e = .returned (.agg #[.int .i64 x.p00, .int .i64 x.p01, .int .i64 x.p02, .int .i64 x.p10, .int .i64 x.p11, .int .i64 x.p12, .int .i64 x.p20, .int .i64 x.p21, .int .i64 x.p22]) ∧ Below w.heap.size w w' := fun w => by rw [ex]; exact matrix_any a0 a1 a2 a3 a4 a5 a6 a7 a8 w a0_b a1_b a2_b a3_b a4_b a5_b a6_b a7_b a8_b
  have Hb : ∀ w, Calls Try.prog 5 #[.agg #[.int .i8 b0, .int .i8 b1, .int .i8 b2, .int .i8 b3, .int .i8 b4, .int .i8 b5, .int .i8 b6, .int .i8 b7, .int .i8 b8]] w fun e w' => e = .returned (.agg #[.int .i64 y.p00, .int .i64 y.p01, .int .i64 y.p02, .int .i64 y.p10, .int .i64 y.p11, .int .i64 y.p12, .int .i64 y.p20, .int .i64 y.p21, .int .i64 y.p22]) ∧ Below w.heap.size w w' := fun w => by rw [ey]; exact matrix_any b0 b1 b2 b3 b4 b5 b6 b7 b8 w b0_b b1_b b2_b b3_b b4_b b5_b b6_b b7_b b8_b
  clear ex ey
  have cx := chk11 x11
  have cy := chk11 y11
  have cxy := chk_mul x11 y11
  have cadj := chk_adj x11
  have ctx : chkM (trM x) = 0 := chk11 (tr_11 x11)
  have uV : InV 32768 (⟨u0, u1, u2⟩ : V3) := ⟨⟨by show -32768 ≤ u0; omega, by show u0 ≤ 32768; omega⟩, ⟨by show -32768 ≤ u1; omega, by show u1 ≤ 32768; omega⟩, ⟨by show -32768 ≤ u2; omega, by show u2 ≤ 32768; omega⟩⟩
  have u31 : InV 2147483648 (⟨u0, u1, u2⟩ : V3) := ⟨⟨by show -2147483648 ≤ u0; omega, by show u0 ≤ 2147483648; omega⟩, ⟨by show -2147483648 ≤ u1; omega, by show u1 ≤ 2147483648; omega⟩, ⟨by show -2147483648 ≤ u2; omega, by show u2 ≤ 2147483648; omega⟩⟩
  have bd1 := app_bd y11 uV
  have bd2 := app_bd (tr_11 x11) uV
  have ap : ∀ (m : Mt) (v : V3) w, chkM m = 0 → InV 2147483648 v → Calls Try.prog 7 #[.agg #[.int .i64 m.p00, .int .i64 m.p01, .int .i64 m.p02, .int .i64 m.p10, .int .i64 m.p11, .int .i64 m.p12, .int .i64 m.p20, .int .i64 m.p21, .int .i64 m.p22], .agg #[.int .i64 v.x, .int .i64 v.y, .int .i64 v.z]] w fun e w' => e = .returned (.tuple #[.agg #[.int .i64 (appM m v).x, .int .i64 (appM m v).y, .int .i64 (appM m v).z], .int .i64 0]) ∧ Below w.heap.size w w' := fun m v w hm hv => Apply_ok m.p00 m.p01 m.p02 m.p10 m.p11 m.p12 m.p20 m.p21 m.p22 v.x v.y v.z w hm hv.1 hv.2.1 hv.2.2
  have lf : ∀ (m : Mt) (v : V3) w, chkM m = 0 → InV 2147483648 v → Calls Try.prog 11 #[.agg #[.int .i64 v.x, .int .i64 v.y, .int .i64 v.z], .agg #[.int .i64 m.p00, .int .i64 m.p01, .int .i64 m.p02, .int .i64 m.p10, .int .i64 m.p11, .int .i64 m.p12, .int .i64 m.p20, .int .i64 m.p21, .int .i64 m.p22]] w fun e w' => e = .returned (.tuple #[.agg #[.int .i64 (appM (trM m) v).x, .int .i64 (appM (trM m) v).y, .int .i64 (appM (trM m) v).z], .int .i64 0]) ∧ Below w.heap.size w w' := fun m v w hm hv => Left_ok v.x v.y v.z m.p00 m.p01 m.p02 m.p10 m.p11 m.p12 m.p20 m.p21 m.p22 w hm hv.1 hv.2.1 hv.2.2
  have ml : ∀ (m q : Mt) w, chkM m = 0 → chkM q = 0 → Calls Try.prog 6 #[.agg #[.int .i64 m.p00, .int .i64 m.p01, .int .i64 m.p02, .int .i64 m.p10, .int .i64 m.p11, .int .i64 m.p12, .int .i64 m.p20, .int .i64 m.p21, .int .i64 m.p22], .agg #[.int .i64 q.p00, .int .i64 q.p01, .int .i64 q.p02, .int .i64 q.p10, .int .i64 q.p11, .int .i64 q.p12, .int .i64 q.p20, .int .i64 q.p21, .int .i64 q.p22]] w fun e w' => e = .returned (.tuple #[.agg #[.int .i64 (mulW m q).p00, .int .i64 (mulW m q).p01, .int .i64 (mulW m q).p02, .int .i64 (mulW m q).p10, .int .i64 (mulW m q).p11, .int .i64 (mulW m q).p12, .int .i64 (mulW m q).p20, .int .i64 (mulW m q).p21, .int .i64 (mulW m q).p22], .int .i64 0]) ∧ Below w.heap.size w w' := fun m q w hm hq => Mul_ok m.p00 m.p01 m.p02 m.p10 m.p11 m.p12 m.p20 m.p21 m.p22 q.p00 q.p01 q.p02 q.p10 q.p11 q.p12 q.p20 q.p21 q.p22 w hm hq
  have H3 := fun w => ml x y w cx cy
  have H4 := fun w => ap y (⟨u0, u1, u2⟩ : V3) w cy u31
  have H5 := fun w => ap x (appM y (⟨u0, u1, u2⟩ : V3)) w cx bd1
  have H6 : ∀ w, Calls Try.prog 7 #[.agg #[.int .i64 (mulW x y).p00, .int .i64 (mulW x y).p01, .int .i64 (mulW x y).p02, .int .i64 (mulW x y).p10, .int .i64 (mulW x y).p11, .int .i64 (mulW x y).p12, .int .i64 (mulW x y).p20, .int .i64 (mulW x y).p21, .int .i64 (mulW x y).p22], .agg #[.int .i64 u0, .int .i64 u1, .int .i64 u2]] w fun e w' => e = .returned (.tuple #[.agg #[.int .i64 (appM x (appM y (⟨u0, u1, u2⟩ : V3))).x, .int .i64 (appM x (appM y (⟨u0, u1, u2⟩ : V3))).y, .int .i64 (appM x (appM y (⟨u0, u1, u2⟩ : V3))).z], .int .i64 0]) ∧ Below w.heap.size w w' := fun w => by rw [app_app]; exact ap (mulW x y) (⟨u0, u1, u2⟩ : V3) w cxy u31
  have H7 := fun w => Det_ok x.p00 x.p01 x.p02 x.p10 x.p11 x.p12 x.p20 x.p21 x.p22 w cx
  have H8 := fun w => Det_ok y.p00 y.p01 y.p02 y.p10 y.p11 y.p12 y.p20 y.p21 y.p22 w cy
  have H9 := fun w => Det_ok (mulW x y).p00 (mulW x y).p01 (mulW x y).p02 (mulW x y).p10 (mulW x y).p11 (mulW x y).p12 (mulW x y).p20 (mulW x y).p21 (mulW x y).p22 w cxy
  have H10 := fun w => Adj_ok x.p00 x.p01 x.p02 x.p10 x.p11 x.p12 x.p20 x.p21 x.p22 w cx
  have H11 : ∀ w, Calls Try.prog 6 #[.agg #[.int .i64 x.p00, .int .i64 x.p01, .int .i64 x.p02, .int .i64 x.p10, .int .i64 x.p11, .int .i64 x.p12, .int .i64 x.p20, .int .i64 x.p21, .int .i64 x.p22], .agg #[.int .i64 (adjW x).p00, .int .i64 (adjW x).p01, .int .i64 (adjW x).p02, .int .i64 (adjW x).p10, .int .i64 (adjW x).p11, .int .i64 (adjW x).p12, .int .i64 (adjW x).p20, .int .i64 (adjW x).p21, .int .i64 (adjW x).p22]] w fun e w' => e = .returned (.tuple #[.agg #[.int .i64 (dM x), .int .i64 0, .int .i64 0, .int .i64 0, .int .i64 (dM x), .int .i64 0, .int .i64 0, .int .i64 0, .int .i64 (dM x)], .int .i64 0]) ∧ Below w.heap.size w w' := fun w => by have := ml x (adjW x) w cx cadj; rw [mul_adj] at this; exact this
  have H13 := fun w => lf x (⟨u0, u1, u2⟩ : V3) w cx u31
  have H14 := fun w => lf y (appM (trM x) (⟨u0, u1, u2⟩ : V3)) w cy bd2
  have H15 : ∀ w, Calls Try.prog 11 #[.agg #[.int .i64 u0, .int .i64 u1, .int .i64 u2], .agg #[.int .i64 (mulW x y).p00, .int .i64 (mulW x y).p01, .int .i64 (mulW x y).p02, .int .i64 (mulW x y).p10, .int .i64 (mulW x y).p11, .int .i64 (mulW x y).p12, .int .i64 (mulW x y).p20, .int .i64 (mulW x y).p21, .int .i64 (mulW x y).p22]] w fun e w' => e = .returned (.tuple #[.agg #[.int .i64 (appM (trM y) (appM (trM x) (⟨u0, u1, u2⟩ : V3))).x, .int .i64 (appM (trM y) (appM (trM x) (⟨u0, u1, u2⟩ : V3))).y, .int .i64 (appM (trM y) (appM (trM x) (⟨u0, u1, u2⟩ : V3))).z], .int .i64 0]) ∧ Below w.heap.size w w' := fun w => by rw [app_tr]; exact lf (mulW x y) (⟨u0, u1, u2⟩ : V3) w cxy u31
  have H16 := fun w => Transpose_ok x.p00 x.p01 x.p02 x.p10 x.p11 x.p12 x.p20 x.p21 x.p22 w cx
  have H17 := fun w => ap (trM x) (⟨u0, u1, u2⟩ : V3) w ctx u31
  obtain ⟨s0, gs, H18⟩ := signs_any k k_b.1 k_b.2
  have gg : ∀ g, Good g → (∀ w, Calls Try.prog 15 #[.agg #[.int .i64 g.p00, .int .i64 g.p01, .int .i64 g.p02, .int .i64 g.p10, .int .i64 g.p11, .int .i64 g.p12, .int .i64 g.p20, .int .i64 g.p21, .int .i64 g.p22]] w fun e w' => e = .returned (.tuple #[.agg #[.int .i64 (timesD (adjW g) (dM g)).p00, .int .i64 (timesD (adjW g) (dM g)).p01, .int .i64 (timesD (adjW g) (dM g)).p02, .int .i64 (timesD (adjW g) (dM g)).p10, .int .i64 (timesD (adjW g) (dM g)).p11, .int .i64 (timesD (adjW g) (dM g)).p12, .int .i64 (timesD (adjW g) (dM g)).p20, .int .i64 (timesD (adjW g) (dM g)).p21, .int .i64 (timesD (adjW g) (dM g)).p22], .int .i64 0]) ∧ Below w.heap.size w w') ∧ (∀ w, Calls Try.prog 6 #[.agg #[.int .i64 g.p00, .int .i64 g.p01, .int .i64 g.p02, .int .i64 g.p10, .int .i64 g.p11, .int .i64 g.p12, .int .i64 g.p20, .int .i64 g.p21, .int .i64 g.p22], .agg #[.int .i64 (timesD (adjW g) (dM g)).p00, .int .i64 (timesD (adjW g) (dM g)).p01, .int .i64 (timesD (adjW g) (dM g)).p02, .int .i64 (timesD (adjW g) (dM g)).p10, .int .i64 (timesD (adjW g) (dM g)).p11, .int .i64 (timesD (adjW g) (dM g)).p12, .int .i64 (timesD (adjW g) (dM g)).p20, .int .i64 (timesD (adjW g) (dM g)).p21, .int .i64 (timesD (adjW g) (dM g)).p22]] w fun e w' => e = .returned (.tuple #[.agg #[.int .i64 1, .int .i64 0, .int .i64 0, .int .i64 0, .int .i64 1, .int .i64 0, .int .i64 0, .int .i64 0, .int .i64 1], .int .i64 0]) ∧ Below w.heap.size w w') ∧ (∀ w, Calls Try.prog 16 #[.agg #[.int .i64 g.p00, .int .i64 g.p01, .int .i64 g.p02, .int .i64 g.p10, .int .i64 g.p11, .int .i64 g.p12, .int .i64 g.p20, .int .i64 g.p21, .int .i64 g.p22]] w fun e w' => e = .returned (.tuple #[.int .i64 (ordN g : Int), .int .i64 0]) ∧ Below w.heap.size w w') ∧ (∀ (c : Mt) w, Calls Try.prog 17 #[.agg #[.int .i64 c.p00, .int .i64 c.p01, .int .i64 c.p02, .int .i64 c.p10, .int .i64 c.p11, .int .i64 c.p12, .int .i64 c.p20, .int .i64 c.p21, .int .i64 c.p22], .agg #[.int .i64 g.p00, .int .i64 g.p01, .int .i64 g.p02, .int .i64 g.p10, .int .i64 g.p11, .int .i64 g.p12, .int .i64 g.p20, .int .i64 g.p21, .int .i64 g.p22]] w fun e w' => e = .returned (.agg #[.int .i64 (mulW c g).p00, .int .i64 (mulW c g).p01, .int .i64 (mulW c g).p02, .int .i64 (mulW c g).p10, .int .i64 (mulW c g).p11, .int .i64 (mulW c g).p12, .int .i64 (mulW c g).p20, .int .i64 (mulW c g).p21, .int .i64 (mulW c g).p22]) ∧ Below w.heap.size w w') := fun g h => by
    refine ⟨fun w => Inv_ok g.p00 g.p01 g.p02 g.p10 g.p11 g.p12 g.p20 g.p21 g.p22 (dM g) w h.c rfl h.d, fun w => ?_, fun w => Order_good h w, fun c w => ttimes_any c.p00 c.p01 c.p02 c.p10 c.p11 c.p12 c.p20 c.p21 c.p22 g.p00 g.p01 g.p02 g.p10 g.p11 g.p12 g.p20 g.p21 g.p22 w⟩
    have := ml g (timesD (adjW g) (dM g)) w h.c h.ci
    rw [h.inv] at this
    exact this
  cases hex
  · obtain ⟨H20, H21, H22, Ht⟩ := gg s0 gs
    exact mat_sgn a0 a1 a2 a3 a4 a5 a6 a7 a8 b0 b1 b2 b3 b4 b5 b6 b7 b8 u0 u1 u2 k (dM x) (dM y) (dM (mulW x y)) x y (mulW x y) (adjW x) (trM x) s0 s0 (timesD (adjW s0) (dM s0)) (appM y (⟨u0, u1, u2⟩ : V3)) (appM x (appM y (⟨u0, u1, u2⟩ : V3))) (appM (trM x) (⟨u0, u1, u2⟩ : V3)) (appM (trM y) (appM (trM x) (⟨u0, u1, u2⟩ : V3))) (ordN s0) w
      Ha Hb H3 H4 H5 H6 H7 H8 H9 H10 H11 H13 H14 H15 H16 H17 H18 H20 H21 H22 Ht (det_mul x11 y11).symm gs.n gs.wl gs.wn rfl u0_b u1_b u2_b
  · obtain ⟨g, gx, H19⟩ := sixfold_any k k_b.1 k_b.2
    obtain ⟨H20, H21, H22, Ht⟩ := gg g gx
    exact mat_hex a0 a1 a2 a3 a4 a5 a6 a7 a8 b0 b1 b2 b3 b4 b5 b6 b7 b8 u0 u1 u2 k (dM x) (dM y) (dM (mulW x y)) x y (mulW x y) (adjW x) (trM x) s0 g (timesD (adjW g) (dM g)) (appM y (⟨u0, u1, u2⟩ : V3)) (appM x (appM y (⟨u0, u1, u2⟩ : V3))) (appM (trM x) (⟨u0, u1, u2⟩ : V3)) (appM (trM y) (appM (trM x) (⟨u0, u1, u2⟩ : V3))) (ordN g) w
      Ha Hb H3 H4 H5 H6 H7 H8 H9 H10 H11 H13 H14 H15 H16 H17 H18 H19 H20 H21 H22 Ht (det_mul x11 y11).symm gx.n gx.wl gx.wn u0_b u1_b u2_b
end Go.Proofs.Ytjghhgapacnpeaa
