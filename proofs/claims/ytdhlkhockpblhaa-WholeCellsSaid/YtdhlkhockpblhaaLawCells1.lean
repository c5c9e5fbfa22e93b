/-
  WholeCells: the main walk.
-/
import Derived.Test.YtdhlkhockpblhaaCelZ4
import Derived.Deep.RegionHeld3
import Derived.Deep.DeepCutAuto
namespace Go.Proofs.Ytdhlkhockpblhaa
open Go.RowKit
attribute [local irreducible] World.setCell

set_option linter.unusedSimpArgs false
set_option linter.unusedVariables false

set_option maxHeartbeats 3200000 in
set_option maxRecDepth 100000 in
theorem cells_main (b0 b1 b2 b3 b4 b5 b6 b7 b8 u0 u1 u2 v0 v1 v2 h0 h1 h2 k a sN sD d st dp l c1 c2 c3 s00 s01 s02 s10 s11 s12 s20 s21 s22 p00 p01 p02 p10 p11 p12 p20 p21 p22 px0 px1 px2 py0 py1 py2 m0 m1 m2 m3 m4 m5 n0 n1 n2 n3 n4 n5 k0 k1 k2 i0 i1 i2 r0 r1 r2 r3 r4 r5 a00 a01 a02 a10 a11 a12 a20 a21 a22 t0 t1 t2 t3 t4 t5 e0 e1 e2 e3 e4 e5 g00 g01 g02 g10 g11 g12 g20 g21 g22 : Int) (z : Bool) (w : World) (HT : ∀ w : World, Calls Try.prog 26 #[.agg #[.int .i8 b0, .int .i8 b1, .int .i8 b2, .int .i8 b3, .int .i8 b4, .int .i8 b5, .int .i8 b6, .int .i8 b7, .int .i8 b8]] w fun e w' => e = .returned (.tuple #[.agg #[.int .i64 m0, .int .i64 m1, .int .i64 m2, .int .i64 m3, .int .i64 m4, .int .i64 m5], .bool true]) ∧ Below w.heap.size w w') (HQ : ∀ w : World, Calls Try.prog 20 #[.agg #[.int .i64 2, .int .i64 2, .int .i64 2, .int .i64 0, .int .i64 0, .int .i64 0]] w fun e w' => e = .returned (.tuple #[.int .i64 8, .int .i64 0]) ∧ Below w.heap.size w w') (HC : ∀ w : World, Calls Try.prog 17 #[.agg #[.int .i64 m0, .int .i64 m1, .int .i64 m2, .int .i64 m3, .int .i64 m4, .int .i64 m5]] w fun e w' => e = .returned (.int .i64 0) ∧ Below w.heap.size w w') (HS : ∀ w : World, Calls Try.prog 28 #[.int .u8 k] w fun e w' => e = .returned (.agg #[.int .i64 s00, .int .i64 s01, .int .i64 s02, .int .i64 s10, .int .i64 s11, .int .i64 s12, .int .i64 s20, .int .i64 s21, .int .i64 s22]) ∧ Below w.heap.size w w') (HTm : ∀ w : World, Calls Try.prog 27 #[.agg #[.int .i64 s00, .int .i64 s01, .int .i64 s02, .int .i64 s10, .int .i64 s11, .int .i64 s12, .int .i64 s20, .int .i64 s21, .int .i64 s22], .agg #[.int .i64 1, .int .i64 0, .int .i64 0, .int .i64 2, .int .i64 1, .int .i64 0, .int .i64 0, .int .i64 (-1), .int .i64 1]] w fun e w' => e = .returned (.agg #[.int .i64 p00, .int .i64 p01, .int .i64 p02, .int .i64 p10, .int .i64 p11, .int .i64 p12, .int .i64 p20, .int .i64 p21, .int .i64 p22]) ∧ Below w.heap.size w w') (HN : ∀ w : World, Calls Try.prog 29 #[.agg #[.int .i64 p00, .int .i64 p01, .int .i64 p02, .int .i64 p10, .int .i64 p11, .int .i64 p12, .int .i64 p20, .int .i64 p21, .int .i64 p22, .int .i64 0, .int .i64 0, .int .i64 0], .agg #[.int .i64 m0, .int .i64 m1, .int .i64 m2, .int .i64 m3, .int .i64 m4, .int .i64 m5]] w fun e w' => e = .returned (.tuple #[.agg #[.int .i64 n0, .int .i64 n1, .int .i64 n2, .int .i64 n3, .int .i64 n4, .int .i64 n5], .int .i64 0]) ∧ Below w.heap.size w w') (HX : ∀ w : World, Calls Try.prog 30 #[.agg #[.int .i64 p00, .int .i64 p01, .int .i64 p02, .int .i64 p10, .int .i64 p11, .int .i64 p12, .int .i64 p20, .int .i64 p21, .int .i64 p22], .agg #[.int .i64 u0, .int .i64 u1, .int .i64 u2]] w fun e w' => e = .returned (.tuple #[.agg #[.int .i64 px0, .int .i64 px1, .int .i64 px2], .int .i64 0]) ∧ Below w.heap.size w w') (HY : ∀ w : World, Calls Try.prog 30 #[.agg #[.int .i64 p00, .int .i64 p01, .int .i64 p02, .int .i64 p10, .int .i64 p11, .int .i64 p12, .int .i64 p20, .int .i64 p21, .int .i64 p22], .agg #[.int .i64 v0, .int .i64 v1, .int .i64 v2]] w fun e w' => e = .returned (.tuple #[.agg #[.int .i64 py0, .int .i64 py1, .int .i64 py2], .int .i64 0]) ∧ Below w.heap.size w w') (HD1 : ∀ w : World, Calls Try.prog 31 #[.agg #[.int .i64 m0, .int .i64 m1, .int .i64 m2, .int .i64 m3, .int .i64 m4, .int .i64 m5], .agg #[.int .i64 u0, .int .i64 u1, .int .i64 u2], .agg #[.int .i64 v0, .int .i64 v1, .int .i64 v2]] w fun e w' => e = .returned (.tuple #[.int .i64 a, .int .i64 0]) ∧ Below w.heap.size w w') (HD2 : ∀ w : World, Calls Try.prog 31 #[.agg #[.int .i64 n0, .int .i64 n1, .int .i64 n2, .int .i64 n3, .int .i64 n4, .int .i64 n5], .agg #[.int .i64 px0, .int .i64 px1, .int .i64 px2], .agg #[.int .i64 py0, .int .i64 py1, .int .i64 py2]] w fun e w' => e = .returned (.tuple #[.int .i64 a, .int .i64 0]) ∧ Below w.heap.size w w') (HK : ∀ w : World, Calls Try.prog 33 #[.agg #[.int .u8 h0, .int .u8 h1, .int .u8 h2]] w fun e w' => e = .returned (.agg #[.int .i64 k0, .int .i64 k1, .int .i64 k2]) ∧ Below w.heap.size w w') (HI : ∀ w : World, Calls Try.prog 32 #[.agg #[.int .i64 p00, .int .i64 p01, .int .i64 p02, .int .i64 p10, .int .i64 p11, .int .i64 p12, .int .i64 p20, .int .i64 p21, .int .i64 p22, .int .i64 0, .int .i64 0, .int .i64 0], .agg #[.int .i64 k0, .int .i64 k1, .int .i64 k2]] w fun e w' => e = .returned (.tuple #[.agg #[.int .i64 i0, .int .i64 i1, .int .i64 i2], .int .i64 0]) ∧ Below w.heap.size w w') (HP1 : ∀ w : World, Calls Try.prog 34 #[.agg #[.int .i64 m0, .int .i64 m1, .int .i64 m2, .int .i64 m3, .int .i64 m4, .int .i64 m5], .agg #[.int .i64 k0, .int .i64 k1, .int .i64 k2]] w fun e w' => e = .returned (.tuple #[.agg #[.int .i64 sN, .int .i64 sD], .int .i64 0]) ∧ Below w.heap.size w w') (HP2 : ∀ w : World, Calls Try.prog 34 #[.agg #[.int .i64 n0, .int .i64 n1, .int .i64 n2, .int .i64 n3, .int .i64 n4, .int .i64 n5], .agg #[.int .i64 i0, .int .i64 i1, .int .i64 i2]] w fun e w' => e = .returned (.tuple #[.agg #[.int .i64 sN, .int .i64 sD], .int .i64 0]) ∧ Below w.heap.size w w') (HO : ∀ w : World, Calls Try.prog 13 #[.agg #[.int .i64 m0, .int .i64 m1, .int .i64 m2, .int .i64 m3, .int .i64 m4, .int .i64 m5]] w fun e w' => e = .returned (.tuple #[.agg #[.int .i64 r0, .int .i64 r1, .int .i64 r2, .int .i64 r3, .int .i64 r4, .int .i64 r5], .agg #[.int .i64 a00, .int .i64 a01, .int .i64 a02, .int .i64 a10, .int .i64 a11, .int .i64 a12, .int .i64 a20, .int .i64 a21, .int .i64 a22], .int .i64 st, .int .i64 0]) ∧ Below w.heap.size w w') (HU : ∀ w : World, Calls Try.prog 24 #[.agg #[.int .i64 m0, .int .i64 m1, .int .i64 m2, .int .i64 m3, .int .i64 m4, .int .i64 m5], .agg #[.int .i64 a00, .int .i64 a01, .int .i64 a02, .int .i64 a10, .int .i64 a11, .int .i64 a12, .int .i64 a20, .int .i64 a21, .int .i64 a22]] w fun e w' => e = .returned (.tuple #[.agg #[.int .i64 t0, .int .i64 t1, .int .i64 t2, .int .i64 t3, .int .i64 t4, .int .i64 t5], .int .i64 c1]) ∧ Below w.heap.size w w') (HG : ∀ w : World, Calls Try.prog 35 #[.agg #[.int .i64 a00, .int .i64 a01, .int .i64 a02, .int .i64 a10, .int .i64 a11, .int .i64 a12, .int .i64 a20, .int .i64 a21, .int .i64 a22]] w fun e w' => e = .returned (.tuple #[.int .i64 dp, .int .i64 c2]) ∧ Below w.heap.size w w') (HL1 : ∀ w : World, Calls Try.prog 15 #[.agg #[.int .i64 m0, .int .i64 m1, .int .i64 m2, .int .i64 m3, .int .i64 m4, .int .i64 m5]] w fun e w' => e = .returned (.tuple #[.int .i64 l, .int .i64 0]) ∧ Below w.heap.size w w') (HL2 : ∀ w : World, Calls Try.prog 15 #[.agg #[.int .i64 n0, .int .i64 n1, .int .i64 n2, .int .i64 n3, .int .i64 n4, .int .i64 n5]] w fun e w' => e = .returned (.tuple #[.int .i64 l, .int .i64 0]) ∧ Below w.heap.size w w') (HE : ∀ w : World, Calls Try.prog 10 #[.agg #[.int .i64 r0, .int .i64 r1, .int .i64 r2, .int .i64 r3, .int .i64 r4, .int .i64 r5]] w fun e w' => e = .returned (.tuple #[.agg #[.int .i64 e0, .int .i64 e1, .int .i64 e2, .int .i64 e3, .int .i64 e4, .int .i64 e5], .agg #[.int .i64 g00, .int .i64 g01, .int .i64 g02, .int .i64 g10, .int .i64 g11, .int .i64 g12, .int .i64 g20, .int .i64 g21, .int .i64 g22], .bool false, .int .i64 0]) ∧ Below w.heap.size w w') (HF : ∀ w : World, Calls Try.prog 36 #[.agg #[.int .i64 a00, .int .i64 a01, .int .i64 a02, .int .i64 a10, .int .i64 a11, .int .i64 a12, .int .i64 a20, .int .i64 a21, .int .i64 a22]] w fun e w' => e = .returned (.int .i64 c3) ∧ Below w.heap.size w w') (HZ : ∀ w : World, Calls Try.prog 37 #[.agg #[.int .i64 m0, .int .i64 m1, .int .i64 m2, .int .i64 m3, .int .i64 m4, .int .i64 m5], .int .i64 l] w fun e w' => e = .returned (.bool true) ∧ Below w.heap.size w w') (HV1 : ∀ w : World, Calls Try.prog 20 #[.agg #[.int .i64 m0, .int .i64 m1, .int .i64 m2, .int .i64 m3, .int .i64 m4, .int .i64 m5]] w fun e w' => e = .returned (.tuple #[.int .i64 d, .int .i64 0]) ∧ Below w.heap.size w w') (HV2 : ∀ w : World, Calls Try.prog 20 #[.agg #[.int .i64 n0, .int .i64 n1, .int .i64 n2, .int .i64 n3, .int .i64 n4, .int .i64 n5]] w fun e w' => e = .returned (.tuple #[.int .i64 d, .int .i64 0]) ∧ Below w.heap.size w w') (eu0 : wrap64 u0 = u0) (eu1 : wrap64 u1 = u1) (eu2 : wrap64 u2 = u2) (ev0 : wrap64 v0 = v0) (ev1 : wrap64 v1 = v1) (ev2 : wrap64 v2 = v2) (ez1 : (sN == 0) = z) (ez2 : (k0 == 0 && (k1 == 0 && k2 == 0)) = z) (hst : 0 ≤ st) (hl0 : r3 ≤ 0) (hl1 : r4 ≤ 0) (hl2 : r5 ≤ 0) (hl3 : wrap64 (wrap64 (wrap64 (-r0) - r5) - r4) ≤ 0) (hl4 : wrap64 (wrap64 (wrap64 (-r5) - r1) - r3) ≤ 0) (hl5 : wrap64 (wrap64 (wrap64 (-r4) - r3) - r2) ≤ 0) (hl6 : l ≤ r0) (hl7 : l ≤ r1) (hl8 : l ≤ r2) (hcase : (c3 ≠ 0 ∧ c1 = 4 ∧ c2 = 4) ∨ (c3 = 0 ∧ c1 = 0 ∧ c2 = 0 ∧ r0 = t0 ∧ r1 = t1 ∧ r2 = t2 ∧ r3 = t3 ∧ r4 = t4 ∧ r5 = t5 ∧ wrap64 (dp * dp) = 1)):
    Calls Try.prog 9 #[.agg #[.int .i8 b0, .int .i8 b1, .int .i8 b2, .int .i8 b3, .int .i8 b4, .int .i8 b5, .int .i8 b6, .int .i8 b7, .int .i8 b8], .agg #[.int .i8 u0, .int .i8 u1, .int .i8 u2], .agg #[.int .i8 v0, .int .i8 v1, .int .i8 v2], .agg #[.int .u8 h0, .int .u8 h1, .int .u8 h2], .int .u8 k] w fun e w' => e = .returned (.bool true) ∧ Below w.heap.size w w' := by
  have AHT := Lib.hid HT; clear HT
  have AHQ := Lib.hid HQ; clear HQ
  have AHC := Lib.hid HC; clear HC
  have AHS := Lib.hid HS; clear HS
  have AHTm := Lib.hid HTm; clear HTm
  have AHN := Lib.hid HN; clear HN
  have AHX := Lib.hid HX; clear HX
  have AHY := Lib.hid HY; clear HY
  have AHD1 := Lib.hid HD1; clear HD1
  have AHD2 := Lib.hid HD2; clear HD2
  have AHK := Lib.hid HK; clear HK
  have AHI := Lib.hid HI; clear HI
  have AHP1 := Lib.hid HP1; clear HP1
  have AHP2 := Lib.hid HP2; clear HP2
  have AHO := Lib.hid HO; clear HO
  have AHU := Lib.hid HU; clear HU
  have AHG := Lib.hid HG; clear HG
  have AHL1 := Lib.hid HL1; clear HL1
  have AHL2 := Lib.hid HL2; clear HL2
  have AHE := Lib.hid HE; clear HE
  have AHF := Lib.hid HF; clear HF
  have AHZ := Lib.hid HZ; clear HZ
  have AHV1 := Lib.hid HV1; clear HV1
  have AHV2 := Lib.hid HV2; clear HV2
  have EU0 := Lib.hid eu0; have EV0 := Lib.hid ev0; clear eu0 ev0
  have EU1 := Lib.hid eu1; have EV1 := Lib.hid ev1; clear eu1 ev1
  have EU2 := Lib.hid eu2; have EV2 := Lib.hid ev2; clear eu2 ev2
  have EZ1 := Lib.hid ez1; have EZ2 := Lib.hid ez2; clear ez1 ez2
  go_enter Try.func9, Try.ntmps9
  go_wp2_with fail
  refine calls_abs (fun W => Below w.heap.size w W ∧ Rs [(w.heap.size + 1, [.int .i8 u0, .int .i8 u1, .int .i8 u2]), (w.heap.size + 1 + 1, [.int .i8 v0, .int .i8 v1, .int .i8 v2]), (w.heap.size + 1 + 1 + 1, [.int .u8 h0, .int .u8 h1, .int .u8 h2])] W) (have gx := (And.intro (by repeat (first | assumption | exact Below.refl _ _ | refine below_drewN ?_ _ | refine Below.drew ?_ | refine Below.alloc ?_ (by first | (simp; done) | (simp; omega) | omega) _ | refine Below.setCell ?_ (by first | (simp; done) | (simp; omega) | omega) _)) (Rs.nil _)); ⟨gx.1, (Rs.cons (at3 (by first | (simp; done) | (simp; omega) | omega) (by go_simp) (by go_simp) (by go_simp)) (Rs.cons (at3 (by first | (simp; done) | (simp; omega) | omega) (by go_simp) (by go_simp) (by go_simp)) (Rs.cons (at3 (by first | (simp; done) | (simp; omega) | omega) (by go_simp) (by go_simp) (by go_simp)) gx.2)))⟩) ?_
  rintro W0 ⟨HBW0, HRW0⟩
  have HB := Lib.hid HBW0; have HR := Lib.hid HRW0; clear HBW0 HRW0
  go_wp2_with fail
  refine (AHT.out _).mono ?_
  rintro e w1 ⟨rfl, hbw1⟩
  go_upto_region 2 with (fail)
  refine wp_abs2 (fun W => Below w.heap.size w W ∧ Rs [(w1.heap.size, [.int .i64 m0, .int .i64 m1, .int .i64 m2, .int .i64 m3, .int .i64 m4, .int .i64 m5]), (w.heap.size + 1, [.int .i8 u0, .int .i8 u1, .int .i8 u2]), (w.heap.size + 1 + 1, [.int .i8 v0, .int .i8 v1, .int .i8 v2]), (w.heap.size + 1 + 1 + 1, [.int .u8 h0, .int .u8 h1, .int .u8 h2])] W) (have gx := (go_on HB.out HR.out hbw1 (by repeat (first | assumption | exact Below.refl _ _ | refine below_drewN ?_ _ | refine Below.drew ?_ | refine Below.alloc ?_ (by first | (simp; done) | (simp; omega) | omega) _ | refine Below.setCell ?_ (by first | (simp; done) | (simp; omega) | omega) _))); ⟨gx.1, (Rs.cons (at6 (by first | (simp; done) | (simp; omega) | omega) (by go_simp) (by go_simp) (by go_simp) (by go_simp) (by go_simp) (by go_simp)) gx.2)⟩) ?_
  rintro W1 ⟨HBW1, HRW1⟩
  clear HB HR
  have HB := Lib.hid HBW1; have HR := Lib.hid HRW1; clear HBW1 HRW1
  clear hbw1
  go_wp2_with fail
  refine (AHQ.out _).mono ?_
  rintro e w2 ⟨rfl, hbw2⟩
  go_upto_region 7 with (fail)
  refine wp_abs2 (fun W => Below w.heap.size w W ∧ Rs [(w1.heap.size, [.int .i64 m0, .int .i64 m1, .int .i64 m2, .int .i64 m3, .int .i64 m4, .int .i64 m5]), (w.heap.size + 1, [.int .i8 u0, .int .i8 u1, .int .i8 u2]), (w.heap.size + 1 + 1, [.int .i8 v0, .int .i8 v1, .int .i8 v2]), (w.heap.size + 1 + 1 + 1, [.int .u8 h0, .int .u8 h1, .int .u8 h2])] W) (have gx := (go_on HB.out HR.out hbw2 (by repeat (first | assumption | exact Below.refl _ _ | refine below_drewN ?_ _ | refine Below.drew ?_ | refine Below.alloc ?_ (by first | (simp; done) | (simp; omega) | omega) _ | refine Below.setCell ?_ (by first | (simp; done) | (simp; omega) | omega) _))); ⟨gx.1, gx.2⟩) ?_
  rintro W2 ⟨HBW2, HRW2⟩
  clear HB HR
  have HB := Lib.hid HBW2; have HR := Lib.hid HRW2; clear HBW2 HRW2
  clear hbw2
  have f_m0 := (HR.out.get 0 rfl).cell 0 rfl
  have f_m1 := (HR.out.get 0 rfl).cell 1 rfl
  have f_m2 := (HR.out.get 0 rfl).cell 2 rfl
  have f_m3 := (HR.out.get 0 rfl).cell 3 rfl
  have f_m4 := (HR.out.get 0 rfl).cell 4 rfl
  have f_m5 := (HR.out.get 0 rfl).cell 5 rfl
  go_wp2_with fail
  refine (AHC.out _).mono ?_
  rintro e w3 ⟨rfl, hbw3⟩
  clear f_m0 f_m1 f_m2 f_m3 f_m4 f_m5
  go_upto_region 9 with (fail)
  refine wp_abs2 (fun W => Below w.heap.size w W ∧ Rs [(w1.heap.size, [.int .i64 m0, .int .i64 m1, .int .i64 m2, .int .i64 m3, .int .i64 m4, .int .i64 m5]), (w.heap.size + 1, [.int .i8 u0, .int .i8 u1, .int .i8 u2]), (w.heap.size + 1 + 1, [.int .i8 v0, .int .i8 v1, .int .i8 v2]), (w.heap.size + 1 + 1 + 1, [.int .u8 h0, .int .u8 h1, .int .u8 h2])] W) (have gx := (go_on HB.out HR.out hbw3 (by repeat (first | assumption | exact Below.refl _ _ | refine below_drewN ?_ _ | refine Below.drew ?_ | refine Below.alloc ?_ (by first | (simp; done) | (simp; omega) | omega) _ | refine Below.setCell ?_ (by first | (simp; done) | (simp; omega) | omega) _))); ⟨gx.1, gx.2⟩) ?_
  rintro W3 ⟨HBW3, HRW3⟩
  clear HB HR
  have HB := Lib.hid HBW3; have HR := Lib.hid HRW3; clear HBW3 HRW3
  clear hbw3
  have f_u0 := (HR.out.get 1 rfl).cell 0 rfl
  have f_u1 := (HR.out.get 1 rfl).cell 1 rfl
  have f_u2 := (HR.out.get 1 rfl).cell 2 rfl
  have wu0 := EU0.out
  have wu1 := EU1.out
  have wu2 := EU2.out
  go_upto_region 10 with (fail)
  refine wp_abs2 (fun W => Below w.heap.size w W ∧ Rs [(W3.heap.size, [.int .i64 u0, .int .i64 u1, .int .i64 u2]), (w1.heap.size, [.int .i64 m0, .int .i64 m1, .int .i64 m2, .int .i64 m3, .int .i64 m4, .int .i64 m5]), (w.heap.size + 1 + 1, [.int .i8 v0, .int .i8 v1, .int .i8 v2]), (w.heap.size + 1 + 1 + 1, [.int .u8 h0, .int .u8 h1, .int .u8 h2])] W) (have gx := (go_on HB.out HR.out (Below.refl _ _) (by repeat (first | assumption | exact Below.refl _ _ | refine below_drewN ?_ _ | refine Below.drew ?_ | refine Below.alloc ?_ (by first | (simp; done) | (simp; omega) | omega) _ | refine Below.setCell ?_ (by first | (simp; done) | (simp; omega) | omega) _))); ⟨gx.1, (Rs.cons (at3 (by first | (simp; done) | (simp; omega) | omega) (by go_simp) (by go_simp) (by go_simp)) (Rs.sub gx.2 (by simp)))⟩) ?_
  rintro W4 ⟨HBW4, HRW4⟩
  clear HB HR
  have HB := Lib.hid HBW4; have HR := Lib.hid HRW4; clear HBW4 HRW4
  clear f_u0 f_u1 f_u2 wu0 wu1 wu2
  have f_v0 := (HR.out.get 2 rfl).cell 0 rfl
  have f_v1 := (HR.out.get 2 rfl).cell 1 rfl
  have f_v2 := (HR.out.get 2 rfl).cell 2 rfl
  have wv0 := EV0.out
  have wv1 := EV1.out
  have wv2 := EV2.out
  go_upto_region 11 with (fail)
  refine wp_abs2 (fun W => Below w.heap.size w W ∧ Rs [(W4.heap.size, [.int .i64 v0, .int .i64 v1, .int .i64 v2]), (W3.heap.size, [.int .i64 u0, .int .i64 u1, .int .i64 u2]), (w1.heap.size, [.int .i64 m0, .int .i64 m1, .int .i64 m2, .int .i64 m3, .int .i64 m4, .int .i64 m5]), (w.heap.size + 1 + 1 + 1, [.int .u8 h0, .int .u8 h1, .int .u8 h2])] W) (have gx := (go_on HB.out HR.out (Below.refl _ _) (by repeat (first | assumption | exact Below.refl _ _ | refine below_drewN ?_ _ | refine Below.drew ?_ | refine Below.alloc ?_ (by first | (simp; done) | (simp; omega) | omega) _ | refine Below.setCell ?_ (by first | (simp; done) | (simp; omega) | omega) _))); ⟨gx.1, (Rs.cons (at3 (by first | (simp; done) | (simp; omega) | omega) (by go_simp) (by go_simp) (by go_simp)) (Rs.sub gx.2 (by simp)))⟩) ?_
  rintro W5 ⟨HBW5, HRW5⟩
  clear HB HR
  have HB := Lib.hid HBW5; have HR := Lib.hid HRW5; clear HBW5 HRW5
  clear f_v0 f_v1 f_v2 wv0 wv1 wv2
  go_wp2_with fail
  refine (AHS.out _).mono ?_
  rintro e w6 ⟨rfl, hbw6⟩
  go_wp2_with fail
  refine (AHTm.out _).mono ?_
  rintro e wq ⟨rfl, hbq⟩
  have hbQ := Below.trans hbw6 (Below.mono hbq hbw6.size)
  clear hbw6 hbq
  go_upto_region 12 with (fail)
  refine wp_abs2 (fun W => Below w.heap.size w W ∧ Rs [(wq.heap.size, [.int .i64 p00, .int .i64 p01, .int .i64 p02, .int .i64 p10, .int .i64 p11, .int .i64 p12, .int .i64 p20, .int .i64 p21, .int .i64 p22, .int .i64 0, .int .i64 0, .int .i64 0]), (W4.heap.size, [.int .i64 v0, .int .i64 v1, .int .i64 v2]), (W3.heap.size, [.int .i64 u0, .int .i64 u1, .int .i64 u2]), (w1.heap.size, [.int .i64 m0, .int .i64 m1, .int .i64 m2, .int .i64 m3, .int .i64 m4, .int .i64 m5]), (w.heap.size + 1 + 1 + 1, [.int .u8 h0, .int .u8 h1, .int .u8 h2])] W) (have gx := (go_on HB.out HR.out hbQ (by repeat (first | assumption | exact Below.refl _ _ | refine below_drewN ?_ _ | refine Below.drew ?_ | refine Below.alloc ?_ (by first | (simp; done) | (simp; omega) | omega) _ | refine Below.setCell ?_ (by first | (simp; done) | (simp; omega) | omega) _))); ⟨gx.1, (Rs.cons (at12 (by first | (simp; done) | (simp; omega) | omega) (by go_simp) (by go_simp) (by go_simp) (by go_simp) (by go_simp) (by go_simp) (by go_simp) (by go_simp) (by go_simp) (by go_simp) (by go_simp) (by go_simp)) gx.2)⟩) ?_
  rintro W6 ⟨HBW6, HRW6⟩
  clear HB HR
  have HB := Lib.hid HBW6; have HR := Lib.hid HRW6; clear HBW6 HRW6
  clear hbQ
  have f_c0 := (HR.out.get 0 rfl).cell 0 rfl
  have f_c1 := (HR.out.get 0 rfl).cell 1 rfl
  have f_c2 := (HR.out.get 0 rfl).cell 2 rfl
  have f_c3 := (HR.out.get 0 rfl).cell 3 rfl
  have f_c4 := (HR.out.get 0 rfl).cell 4 rfl
  have f_c5 := (HR.out.get 0 rfl).cell 5 rfl
  have f_c6 := (HR.out.get 0 rfl).cell 6 rfl
  have f_c7 := (HR.out.get 0 rfl).cell 7 rfl
  have f_c8 := (HR.out.get 0 rfl).cell 8 rfl
  have f_c9 := (HR.out.get 0 rfl).cell 9 rfl
  have f_c10 := (HR.out.get 0 rfl).cell 10 rfl
  have f_c11 := (HR.out.get 0 rfl).cell 11 rfl
  have f_m0 := (HR.out.get 3 rfl).cell 0 rfl
  have f_m1 := (HR.out.get 3 rfl).cell 1 rfl
  have f_m2 := (HR.out.get 3 rfl).cell 2 rfl
  have f_m3 := (HR.out.get 3 rfl).cell 3 rfl
  have f_m4 := (HR.out.get 3 rfl).cell 4 rfl
  have f_m5 := (HR.out.get 3 rfl).cell 5 rfl
  go_wp2_with fail
  refine (AHN.out _).mono ?_
  rintro e w7 ⟨rfl, hbw7⟩
  clear f_c0 f_c1 f_c2 f_c3 f_c4 f_c5 f_c6 f_c7 f_c8 f_c9 f_c10 f_c11 f_m0 f_m1 f_m2 f_m3 f_m4 f_m5
  go_upto_region 13 with (fail)
  refine wp_abs2 (fun W => Below w.heap.size w W ∧ Rs [(w7.heap.size, [.int .i64 n0, .int .i64 n1, .int .i64 n2, .int .i64 n3, .int .i64 n4, .int .i64 n5]), (wq.heap.size, [.int .i64 p00, .int .i64 p01, .int .i64 p02, .int .i64 p10, .int .i64 p11, .int .i64 p12, .int .i64 p20, .int .i64 p21, .int .i64 p22, .int .i64 0, .int .i64 0, .int .i64 0]), (W4.heap.size, [.int .i64 v0, .int .i64 v1, .int .i64 v2]), (W3.heap.size, [.int .i64 u0, .int .i64 u1, .int .i64 u2]), (w1.heap.size, [.int .i64 m0, .int .i64 m1, .int .i64 m2, .int .i64 m3, .int .i64 m4, .int .i64 m5]), (w.heap.size + 1 + 1 + 1, [.int .u8 h0, .int .u8 h1, .int .u8 h2])] W) (have gx := (go_on HB.out HR.out hbw7 (by repeat (first | assumption | exact Below.refl _ _ | refine below_drewN ?_ _ | refine Below.drew ?_ | refine Below.alloc ?_ (by first | (simp; done) | (simp; omega) | omega) _ | refine Below.setCell ?_ (by first | (simp; done) | (simp; omega) | omega) _))); ⟨gx.1, (Rs.cons (at6 (by first | (simp; done) | (simp; omega) | omega) (by go_simp) (by go_simp) (by go_simp) (by go_simp) (by go_simp) (by go_simp)) gx.2)⟩) ?_
  rintro W7 ⟨HBW7, HRW7⟩
  clear HB HR
  have HB := Lib.hid HBW7; have HR := Lib.hid HRW7; clear HBW7 HRW7
  clear hbw7
  have f_c0 := (HR.out.get 1 rfl).cell 0 rfl
  have f_c1 := (HR.out.get 1 rfl).cell 1 rfl
  have f_c2 := (HR.out.get 1 rfl).cell 2 rfl
  have f_c3 := (HR.out.get 1 rfl).cell 3 rfl
  have f_c4 := (HR.out.get 1 rfl).cell 4 rfl
  have f_c5 := (HR.out.get 1 rfl).cell 5 rfl
  have f_c6 := (HR.out.get 1 rfl).cell 6 rfl
  have f_c7 := (HR.out.get 1 rfl).cell 7 rfl
  have f_c8 := (HR.out.get 1 rfl).cell 8 rfl
  have f_c9 := (HR.out.get 1 rfl).cell 9 rfl
  have f_c10 := (HR.out.get 1 rfl).cell 10 rfl
  have f_c11 := (HR.out.get 1 rfl).cell 11 rfl
  have f_x0 := (HR.out.get 3 rfl).cell 0 rfl
  have f_x1 := (HR.out.get 3 rfl).cell 1 rfl
  have f_x2 := (HR.out.get 3 rfl).cell 2 rfl
  go_wp2_with fail
  refine (AHX.out _).mono ?_
  rintro e w8 ⟨rfl, hbw8⟩
  clear f_c0 f_c1 f_c2 f_c3 f_c4 f_c5 f_c6 f_c7 f_c8 f_c9 f_c10 f_c11 f_x0 f_x1 f_x2
  go_upto_region 14 with (fail)
  refine wp_abs2 (fun W => Below w.heap.size w W ∧ Rs [(w8.heap.size, [.int .i64 px0, .int .i64 px1, .int .i64 px2]), (w7.heap.size, [.int .i64 n0, .int .i64 n1, .int .i64 n2, .int .i64 n3, .int .i64 n4, .int .i64 n5]), (wq.heap.size, [.int .i64 p00, .int .i64 p01, .int .i64 p02, .int .i64 p10, .int .i64 p11, .int .i64 p12, .int .i64 p20, .int .i64 p21, .int .i64 p22, .int .i64 0, .int .i64 0, .int .i64 0]), (W4.heap.size, [.int .i64 v0, .int .i64 v1, .int .i64 v2]), (W3.heap.size, [.int .i64 u0, .int .i64 u1, .int .i64 u2]), (w1.heap.size, [.int .i64 m0, .int .i64 m1, .int .i64 m2, .int .i64 m3, .int .i64 m4, .int .i64 m5]), (w.heap.size + 1 + 1 + 1, [.int .u8 h0, .int .u8 h1, .int .u8 h2])] W) (have gx := (go_on HB.out HR.out hbw8 (by repeat (first | assumption | exact Below.refl _ _ | refine below_drewN ?_ _ | refine Below.drew ?_ | refine Below.alloc ?_ (by first | (simp; done) | (simp; omega) | omega) _ | refine Below.setCell ?_ (by first | (simp; done) | (simp; omega) | omega) _))); ⟨gx.1, (Rs.cons (at3 (by first | (simp; done) | (simp; omega) | omega) (by go_simp) (by go_simp) (by go_simp)) gx.2)⟩) ?_
  rintro W8 ⟨HBW8, HRW8⟩
  clear HB HR
  have HB := Lib.hid HBW8; have HR := Lib.hid HRW8; clear HBW8 HRW8
  clear hbw8
  have f_c0 := (HR.out.get 2 rfl).cell 0 rfl
  have f_c1 := (HR.out.get 2 rfl).cell 1 rfl
  have f_c2 := (HR.out.get 2 rfl).cell 2 rfl
  have f_c3 := (HR.out.get 2 rfl).cell 3 rfl
  have f_c4 := (HR.out.get 2 rfl).cell 4 rfl
  have f_c5 := (HR.out.get 2 rfl).cell 5 rfl
  have f_c6 := (HR.out.get 2 rfl).cell 6 rfl
  have f_c7 := (HR.out.get 2 rfl).cell 7 rfl
  have f_c8 := (HR.out.get 2 rfl).cell 8 rfl
  have f_c9 := (HR.out.get 2 rfl).cell 9 rfl
  have f_c10 := (HR.out.get 2 rfl).cell 10 rfl
  have f_c11 := (HR.out.get 2 rfl).cell 11 rfl
  have f_y0 := (HR.out.get 3 rfl).cell 0 rfl
  have f_y1 := (HR.out.get 3 rfl).cell 1 rfl
  have f_y2 := (HR.out.get 3 rfl).cell 2 rfl
  go_wp2_with fail
  refine (AHY.out _).mono ?_
  rintro e w9 ⟨rfl, hbw9⟩
  clear f_c0 f_c1 f_c2 f_c3 f_c4 f_c5 f_c6 f_c7 f_c8 f_c9 f_c10 f_c11 f_y0 f_y1 f_y2
  go_upto_region 15 with (fail)
  refine wp_abs2 (fun W => Below w.heap.size w W ∧ Rs [(w9.heap.size, [.int .i64 py0, .int .i64 py1, .int .i64 py2]), (w8.heap.size, [.int .i64 px0, .int .i64 px1, .int .i64 px2]), (w7.heap.size, [.int .i64 n0, .int .i64 n1, .int .i64 n2, .int .i64 n3, .int .i64 n4, .int .i64 n5]), (wq.heap.size, [.int .i64 p00, .int .i64 p01, .int .i64 p02, .int .i64 p10, .int .i64 p11, .int .i64 p12, .int .i64 p20, .int .i64 p21, .int .i64 p22, .int .i64 0, .int .i64 0, .int .i64 0]), (W4.heap.size, [.int .i64 v0, .int .i64 v1, .int .i64 v2]), (W3.heap.size, [.int .i64 u0, .int .i64 u1, .int .i64 u2]), (w1.heap.size, [.int .i64 m0, .int .i64 m1, .int .i64 m2, .int .i64 m3, .int .i64 m4, .int .i64 m5]), (w.heap.size + 1 + 1 + 1, [.int .u8 h0, .int .u8 h1, .int .u8 h2])] W) (have gx := (go_on HB.out HR.out hbw9 (by repeat (first | assumption | exact Below.refl _ _ | refine below_drewN ?_ _ | refine Below.drew ?_ | refine Below.alloc ?_ (by first | (simp; done) | (simp; omega) | omega) _ | refine Below.setCell ?_ (by first | (simp; done) | (simp; omega) | omega) _))); ⟨gx.1, (Rs.cons (at3 (by first | (simp; done) | (simp; omega) | omega) (by go_simp) (by go_simp) (by go_simp)) gx.2)⟩) ?_
  rintro W9 ⟨HBW9, HRW9⟩
  clear HB HR
  have HB := Lib.hid HBW9; have HR := Lib.hid HRW9; clear HBW9 HRW9
  clear hbw9
  have f_y0 := (HR.out.get 4 rfl).cell 0 rfl
  have f_y1 := (HR.out.get 4 rfl).cell 1 rfl
  have f_y2 := (HR.out.get 4 rfl).cell 2 rfl
  have f_x0 := (HR.out.get 5 rfl).cell 0 rfl
  have f_x1 := (HR.out.get 5 rfl).cell 1 rfl
  have f_x2 := (HR.out.get 5 rfl).cell 2 rfl
  have f_m0 := (HR.out.get 6 rfl).cell 0 rfl
  have f_m1 := (HR.out.get 6 rfl).cell 1 rfl
  have f_m2 := (HR.out.get 6 rfl).cell 2 rfl
  have f_m3 := (HR.out.get 6 rfl).cell 3 rfl
  have f_m4 := (HR.out.get 6 rfl).cell 4 rfl
  have f_m5 := (HR.out.get 6 rfl).cell 5 rfl
  go_wp2_with fail
  refine (AHD1.out _).mono ?_
  rintro e w10 ⟨rfl, hbw10⟩
  clear f_y0 f_y1 f_y2 f_x0 f_x1 f_x2 f_m0 f_m1 f_m2 f_m3 f_m4 f_m5
  go_upto_region 16 with (fail)
  refine wp_abs2 (fun W => Below w.heap.size w W ∧ Rs [(w9.heap.size, [.int .i64 py0, .int .i64 py1, .int .i64 py2]), (w8.heap.size, [.int .i64 px0, .int .i64 px1, .int .i64 px2]), (w7.heap.size, [.int .i64 n0, .int .i64 n1, .int .i64 n2, .int .i64 n3, .int .i64 n4, .int .i64 n5]), (wq.heap.size, [.int .i64 p00, .int .i64 p01, .int .i64 p02, .int .i64 p10, .int .i64 p11, .int .i64 p12, .int .i64 p20, .int .i64 p21, .int .i64 p22, .int .i64 0, .int .i64 0, .int .i64 0]), (w1.heap.size, [.int .i64 m0, .int .i64 m1, .int .i64 m2, .int .i64 m3, .int .i64 m4, .int .i64 m5]), (w.heap.size + 1 + 1 + 1, [.int .u8 h0, .int .u8 h1, .int .u8 h2])] W) (have gx := (go_on HB.out HR.out hbw10 (by repeat (first | assumption | exact Below.refl _ _ | refine below_drewN ?_ _ | refine Below.drew ?_ | refine Below.alloc ?_ (by first | (simp; done) | (simp; omega) | omega) _ | refine Below.setCell ?_ (by first | (simp; done) | (simp; omega) | omega) _))); ⟨gx.1, (Rs.sub gx.2 (by simp))⟩) ?_
  rintro W10 ⟨HBW10, HRW10⟩
  clear HB HR
  have HB := Lib.hid HBW10; have HR := Lib.hid HRW10; clear HBW10 HRW10
  clear hbw10
  have f_py0 := (HR.out.get 0 rfl).cell 0 rfl
  have f_py1 := (HR.out.get 0 rfl).cell 1 rfl
  have f_py2 := (HR.out.get 0 rfl).cell 2 rfl
  have f_px0 := (HR.out.get 1 rfl).cell 0 rfl
  have f_px1 := (HR.out.get 1 rfl).cell 1 rfl
  have f_px2 := (HR.out.get 1 rfl).cell 2 rfl
  have f_n0 := (HR.out.get 2 rfl).cell 0 rfl
  have f_n1 := (HR.out.get 2 rfl).cell 1 rfl
  have f_n2 := (HR.out.get 2 rfl).cell 2 rfl
  have f_n3 := (HR.out.get 2 rfl).cell 3 rfl
  have f_n4 := (HR.out.get 2 rfl).cell 4 rfl
  have f_n5 := (HR.out.get 2 rfl).cell 5 rfl
  go_wp2_with fail
  refine (AHD2.out _).mono ?_
  rintro e w11 ⟨rfl, hbw11⟩
  clear f_py0 f_py1 f_py2 f_px0 f_px1 f_px2 f_n0 f_n1 f_n2 f_n3 f_n4 f_n5
  go_upto_region 17 with (fail)
  refine wp_abs2 (fun W => Below w.heap.size w W ∧ Rs [(w7.heap.size, [.int .i64 n0, .int .i64 n1, .int .i64 n2, .int .i64 n3, .int .i64 n4, .int .i64 n5]), (wq.heap.size, [.int .i64 p00, .int .i64 p01, .int .i64 p02, .int .i64 p10, .int .i64 p11, .int .i64 p12, .int .i64 p20, .int .i64 p21, .int .i64 p22, .int .i64 0, .int .i64 0, .int .i64 0]), (w1.heap.size, [.int .i64 m0, .int .i64 m1, .int .i64 m2, .int .i64 m3, .int .i64 m4, .int .i64 m5]), (w.heap.size + 1 + 1 + 1, [.int .u8 h0, .int .u8 h1, .int .u8 h2])] W) (have gx := (go_on HB.out HR.out hbw11 (by repeat (first | assumption | exact Below.refl _ _ | refine below_drewN ?_ _ | refine Below.drew ?_ | refine Below.alloc ?_ (by first | (simp; done) | (simp; omega) | omega) _ | refine Below.setCell ?_ (by first | (simp; done) | (simp; omega) | omega) _))); ⟨gx.1, (Rs.sub gx.2 (by simp))⟩) ?_
  rintro W11 ⟨HBW11, HRW11⟩
  clear HB HR
  have HB := Lib.hid HBW11; have HR := Lib.hid HRW11; clear HBW11 HRW11
  clear hbw11
  have f_c0 := (HR.out.get 1 rfl).cell 0 rfl
  have f_c1 := (HR.out.get 1 rfl).cell 1 rfl
  have f_c2 := (HR.out.get 1 rfl).cell 2 rfl
  have f_c3 := (HR.out.get 1 rfl).cell 3 rfl
  have f_c4 := (HR.out.get 1 rfl).cell 4 rfl
  have f_c5 := (HR.out.get 1 rfl).cell 5 rfl
  have f_c6 := (HR.out.get 1 rfl).cell 6 rfl
  have f_c7 := (HR.out.get 1 rfl).cell 7 rfl
  have f_c8 := (HR.out.get 1 rfl).cell 8 rfl
  have f_c9 := (HR.out.get 1 rfl).cell 9 rfl
  have f_c10 := (HR.out.get 1 rfl).cell 10 rfl
  have f_c11 := (HR.out.get 1 rfl).cell 11 rfl
  have f_h0 := (HR.out.get 3 rfl).cell 0 rfl
  have f_h1 := (HR.out.get 3 rfl).cell 1 rfl
  have f_h2 := (HR.out.get 3 rfl).cell 2 rfl
  have z_c := (HR.out.get 1 rfl).lt
  have z_h := (HR.out.get 3 rfl).lt
  go_cut [28, 29] from 143 to 149 (fun s e wx => ∃ g_i : Nat, s = .pointer (some ⟨g_i, 0, none⟩) ∧ e = .int .i64 0 ∧ Below w.heap.size w wx ∧ Rs [(g_i, [.int .i64 i0, .int .i64 i1, .int .i64 i2]), (w7.heap.size, [.int .i64 n0, .int .i64 n1, .int .i64 n2, .int .i64 n3, .int .i64 n4, .int .i64 n5]), (w1.heap.size, [.int .i64 m0, .int .i64 m1, .int .i64 m2, .int .i64 m3, .int .i64 m4, .int .i64 m5]), (w.heap.size + 1 + 1 + 1, [.int .u8 h0, .int .u8 h1, .int .u8 h2])] wx)
  case first =>
    go_region_held3 (fun w' => Below W11.heap.size W11 w' ∧ ∀ b o, b < W11.heap.size → w'.cell? ⟨b, o, none⟩ = W11.cell? ⟨b, o, none⟩) (first | assumption | exact ⟨by assumption, by assumption⟩ | exact sb_of (by (repeat (first | assumption | exact And.left (by assumption) | exact Below.refl _ _ | refine Below.setCell ?_ (by first | (simp; done) | omega | (simp; omega)) _ | refine Below.alloc ?_ (by first | (simp; done) | omega | (simp; omega)) _ | refine Below.drew ?_)))) (first | (go_at_call 33; (fail_if_success (have qq := hbq0)); refine (AHK.out _).mono ?_; rintro e q0 ⟨rfl, hbq0⟩; have hsq0 := sb_call (Wc := W11) (by (repeat (first | assumption | exact And.left (by assumption) | exact Below.refl _ _ | refine Below.setCell ?_ (by first | (simp; done) | omega | (simp; omega)) _ | refine Below.alloc ?_ (by first | (simp; done) | omega | (simp; omega)) _ | refine Below.drew ?_))) hbq0; have hlq0 := hsq0.1.size; have hkq0 := hsq0.2; obtain ⟨hcq0, hfq0⟩ := bcell hbq0; have hzq0 := hbq0.size; (try simp at hzq0); (try have zq0_0 : W11.heap.size < q0.heap.size := (by omega))) | (go_at_call 33; (fail_if_success (have qq := hbq1)); (have qq := hbq0; clear qq); refine (AHK.out _).mono ?_; rintro e q1 ⟨rfl, hbq1⟩; have hsq1 := sb_call (Wc := W11) (by (repeat (first | assumption | exact And.left (by assumption) | exact Below.refl _ _ | refine Below.setCell ?_ (by first | (simp; done) | omega | (simp; omega)) _ | refine Below.alloc ?_ (by first | (simp; done) | omega | (simp; omega)) _ | refine Below.drew ?_))) hbq1; have hlq1 := hsq1.1.size; have hkq1 := hsq1.2; obtain ⟨hcq1, hfq1⟩ := bcell hbq1; have hzq1 := hbq1.size; (try simp at hzq1); (try have zq1_0 : W11.heap.size < q1.heap.size := (by omega)); (try have zq1_1 : q0.heap.size < q1.heap.size := (by omega))) | (go_at_call 32; (fail_if_success (have qq := hbq0)); refine (AHI.out _).mono ?_; rintro e q0 ⟨rfl, hbq0⟩; have hsq0 := sb_call (Wc := W11) (by (repeat (first | assumption | exact And.left (by assumption) | exact Below.refl _ _ | refine Below.setCell ?_ (by first | (simp; done) | omega | (simp; omega)) _ | refine Below.alloc ?_ (by first | (simp; done) | omega | (simp; omega)) _ | refine Below.drew ?_))) hbq0; have hlq0 := hsq0.1.size; have hkq0 := hsq0.2; obtain ⟨hcq0, hfq0⟩ := bcell hbq0; have hzq0 := hbq0.size; (try simp at hzq0); (try have zq0_0 : W11.heap.size < q0.heap.size := (by omega))) | (go_at_call 32; (fail_if_success (have qq := hbq1)); (have qq := hbq0; clear qq); refine (AHI.out _).mono ?_; rintro e q1 ⟨rfl, hbq1⟩; have hsq1 := sb_call (Wc := W11) (by (repeat (first | assumption | exact And.left (by assumption) | exact Below.refl _ _ | refine Below.setCell ?_ (by first | (simp; done) | omega | (simp; omega)) _ | refine Below.alloc ?_ (by first | (simp; done) | omega | (simp; omega)) _ | refine Below.drew ?_))) hbq1; have hlq1 := hsq1.1.size; have hkq1 := hsq1.2; obtain ⟨hcq1, hfq1⟩ := bcell hbq1; have hzq1 := hbq1.size; (try simp at hzq1); (try have zq1_0 : W11.heap.size < q1.heap.size := (by omega)); (try have zq1_1 : q0.heap.size < q1.heap.size := (by omega))))
    all_goals
      go_wp2
      go_meet
      refine ⟨_, rfl, rfl, ?_⟩
      have gx := go_on HB.out HR.out (Below.refl _ _) (show Below W11.heap.size W11 _ by (repeat (first | assumption | exact And.left (by assumption) | exact Below.refl _ _ | refine below_drewN ?_ _ | refine Below.setCell ?_ (by first | (simp; done) | omega | (simp; omega)) _ | refine Below.alloc ?_ (by first | (simp; done) | omega | (simp; omega)) _ | refine Below.drew ?_)))
      exact ⟨gx.1, Rs.cons (at3 (by first | (simp; done) | (simp; omega) | omega) (by go_simp) (by go_simp) (by go_simp)) (Rs.sub gx.2 (by simp))⟩
  obtain ⟨g_i, rfl, rfl, HBW12, HRW12⟩ := hcut
  clear HB HR f_c0 f_c1 f_c2 f_c3 f_c4 f_c5 f_c6 f_c7 f_c8 f_c9 f_c10 f_c11 f_h0 f_h1 f_h2 z_c z_h
  obtain ⟨W12, rfl⟩ : ∃ X, X = wc := ⟨_, rfl⟩
  have HB := Lib.hid HBW12; have HR := Lib.hid HRW12; clear HBW12 HRW12
  go_upto_region 18 with (fail)
  have f_m0 := (HR.out.get 2 rfl).cell 0 rfl
  have f_m1 := (HR.out.get 2 rfl).cell 1 rfl
  have f_m2 := (HR.out.get 2 rfl).cell 2 rfl
  have f_m3 := (HR.out.get 2 rfl).cell 3 rfl
  have f_m4 := (HR.out.get 2 rfl).cell 4 rfl
  have f_m5 := (HR.out.get 2 rfl).cell 5 rfl
  have f_h0 := (HR.out.get 3 rfl).cell 0 rfl
  have f_h1 := (HR.out.get 3 rfl).cell 1 rfl
  have f_h2 := (HR.out.get 3 rfl).cell 2 rfl
  have z_m := (HR.out.get 2 rfl).lt
  have z_h := (HR.out.get 3 rfl).lt
  go_cut [30, 31] from 150 to 156 (fun s e wx => ∃ g_sp : Nat, s = .pointer (some ⟨g_sp, 0, none⟩) ∧ e = .int .i64 0 ∧ Below w.heap.size w wx ∧ Rs [(g_sp, [.int .i64 sN, .int .i64 sD]), (g_i, [.int .i64 i0, .int .i64 i1, .int .i64 i2]), (w7.heap.size, [.int .i64 n0, .int .i64 n1, .int .i64 n2, .int .i64 n3, .int .i64 n4, .int .i64 n5]), (w1.heap.size, [.int .i64 m0, .int .i64 m1, .int .i64 m2, .int .i64 m3, .int .i64 m4, .int .i64 m5]), (w.heap.size + 1 + 1 + 1, [.int .u8 h0, .int .u8 h1, .int .u8 h2])] wx)
  case first =>
    go_region_held3 (fun w' => Below W12.heap.size W12 w' ∧ ∀ b o, b < W12.heap.size → w'.cell? ⟨b, o, none⟩ = W12.cell? ⟨b, o, none⟩) (first | assumption | exact ⟨by assumption, by assumption⟩ | exact sb_of (by (repeat (first | assumption | exact And.left (by assumption) | exact Below.refl _ _ | refine Below.setCell ?_ (by first | (simp; done) | omega | (simp; omega)) _ | refine Below.alloc ?_ (by first | (simp; done) | omega | (simp; omega)) _ | refine Below.drew ?_)))) (first | (go_at_call 33; (fail_if_success (have qq := hbq0)); refine (AHK.out _).mono ?_; rintro e q0 ⟨rfl, hbq0⟩; have hsq0 := sb_call (Wc := W12) (by (repeat (first | assumption | exact And.left (by assumption) | exact Below.refl _ _ | refine Below.setCell ?_ (by first | (simp; done) | omega | (simp; omega)) _ | refine Below.alloc ?_ (by first | (simp; done) | omega | (simp; omega)) _ | refine Below.drew ?_))) hbq0; have hlq0 := hsq0.1.size; have hkq0 := hsq0.2; obtain ⟨hcq0, hfq0⟩ := bcell hbq0; have hzq0 := hbq0.size; (try simp at hzq0); (try have zq0_0 : W12.heap.size < q0.heap.size := (by omega))) | (go_at_call 33; (fail_if_success (have qq := hbq1)); (have qq := hbq0; clear qq); refine (AHK.out _).mono ?_; rintro e q1 ⟨rfl, hbq1⟩; have hsq1 := sb_call (Wc := W12) (by (repeat (first | assumption | exact And.left (by assumption) | exact Below.refl _ _ | refine Below.setCell ?_ (by first | (simp; done) | omega | (simp; omega)) _ | refine Below.alloc ?_ (by first | (simp; done) | omega | (simp; omega)) _ | refine Below.drew ?_))) hbq1; have hlq1 := hsq1.1.size; have hkq1 := hsq1.2; obtain ⟨hcq1, hfq1⟩ := bcell hbq1; have hzq1 := hbq1.size; (try simp at hzq1); (try have zq1_0 : W12.heap.size < q1.heap.size := (by omega)); (try have zq1_1 : q0.heap.size < q1.heap.size := (by omega))) | (go_at_call 34; (fail_if_success (have qq := hbq0)); refine (AHP1.out _).mono ?_; rintro e q0 ⟨rfl, hbq0⟩; have hsq0 := sb_call (Wc := W12) (by (repeat (first | assumption | exact And.left (by assumption) | exact Below.refl _ _ | refine Below.setCell ?_ (by first | (simp; done) | omega | (simp; omega)) _ | refine Below.alloc ?_ (by first | (simp; done) | omega | (simp; omega)) _ | refine Below.drew ?_))) hbq0; have hlq0 := hsq0.1.size; have hkq0 := hsq0.2; obtain ⟨hcq0, hfq0⟩ := bcell hbq0; have hzq0 := hbq0.size; (try simp at hzq0); (try have zq0_0 : W12.heap.size < q0.heap.size := (by omega))) | (go_at_call 34; (fail_if_success (have qq := hbq1)); (have qq := hbq0; clear qq); refine (AHP1.out _).mono ?_; rintro e q1 ⟨rfl, hbq1⟩; have hsq1 := sb_call (Wc := W12) (by (repeat (first | assumption | exact And.left (by assumption) | exact Below.refl _ _ | refine Below.setCell ?_ (by first | (simp; done) | omega | (simp; omega)) _ | refine Below.alloc ?_ (by first | (simp; done) | omega | (simp; omega)) _ | refine Below.drew ?_))) hbq1; have hlq1 := hsq1.1.size; have hkq1 := hsq1.2; obtain ⟨hcq1, hfq1⟩ := bcell hbq1; have hzq1 := hbq1.size; (try simp at hzq1); (try have zq1_0 : W12.heap.size < q1.heap.size := (by omega)); (try have zq1_1 : q0.heap.size < q1.heap.size := (by omega))))
    all_goals
      go_wp2
      go_meet
      refine ⟨_, rfl, rfl, ?_⟩
      have gx := go_on HB.out HR.out (Below.refl _ _) (show Below W12.heap.size W12 _ by (repeat (first | assumption | exact And.left (by assumption) | exact Below.refl _ _ | refine below_drewN ?_ _ | refine Below.setCell ?_ (by first | (simp; done) | omega | (simp; omega)) _ | refine Below.alloc ?_ (by first | (simp; done) | omega | (simp; omega)) _ | refine Below.drew ?_)))
      exact ⟨gx.1, Rs.cons (at2 (by first | (simp; done) | (simp; omega) | omega) (by go_simp) (by go_simp)) gx.2⟩
  obtain ⟨g_sp, rfl, rfl, HBW13, HRW13⟩ := hcut
  clear HB HR f_m0 f_m1 f_m2 f_m3 f_m4 f_m5 f_h0 f_h1 f_h2 z_m z_h
  obtain ⟨W13, rfl⟩ : ∃ X, X = wc := ⟨_, rfl⟩
  have HB := Lib.hid HBW13; have HR := Lib.hid HRW13; clear HBW13 HRW13
  go_upto_region 19 with (fail)
  have f_i0 := (HR.out.get 1 rfl).cell 0 rfl
  have f_i1 := (HR.out.get 1 rfl).cell 1 rfl
  have f_i2 := (HR.out.get 1 rfl).cell 2 rfl
  have f_n0 := (HR.out.get 2 rfl).cell 0 rfl
  have f_n1 := (HR.out.get 2 rfl).cell 1 rfl
  have f_n2 := (HR.out.get 2 rfl).cell 2 rfl
  have f_n3 := (HR.out.get 2 rfl).cell 3 rfl
  have f_n4 := (HR.out.get 2 rfl).cell 4 rfl
  have f_n5 := (HR.out.get 2 rfl).cell 5 rfl
  go_wp2_with fail
  refine (AHP2.out _).mono ?_
  rintro e w14 ⟨rfl, hbw14⟩
  clear f_i0 f_i1 f_i2 f_n0 f_n1 f_n2 f_n3 f_n4 f_n5
  go_upto_region 20 with (fail)
  refine wp_abs2 (fun W => Below w.heap.size w W ∧ Rs [(w14.heap.size, [.int .i64 sN, .int .i64 sD]), (g_sp, [.int .i64 sN, .int .i64 sD]), (w7.heap.size, [.int .i64 n0, .int .i64 n1, .int .i64 n2, .int .i64 n3, .int .i64 n4, .int .i64 n5]), (w1.heap.size, [.int .i64 m0, .int .i64 m1, .int .i64 m2, .int .i64 m3, .int .i64 m4, .int .i64 m5]), (w.heap.size + 1 + 1 + 1, [.int .u8 h0, .int .u8 h1, .int .u8 h2])] W) (have gx := (go_on HB.out HR.out hbw14 (by repeat (first | assumption | exact Below.refl _ _ | refine below_drewN ?_ _ | refine Below.drew ?_ | refine Below.alloc ?_ (by first | (simp; done) | (simp; omega) | omega) _ | refine Below.setCell ?_ (by first | (simp; done) | (simp; omega) | omega) _))); ⟨gx.1, (Rs.cons (at2 (by first | (simp; done) | (simp; omega) | omega) (by go_simp) (by go_simp)) (Rs.sub gx.2 (by simp)))⟩) ?_
  rintro W14 ⟨HBW14, HRW14⟩
  clear HB HR
  have HB := Lib.hid HBW14; have HR := Lib.hid HRW14; clear HBW14 HRW14
  clear hbw14
  have f_m0 := (HR.out.get 3 rfl).cell 0 rfl
  have f_m1 := (HR.out.get 3 rfl).cell 1 rfl
  have f_m2 := (HR.out.get 3 rfl).cell 2 rfl
  have f_m3 := (HR.out.get 3 rfl).cell 3 rfl
  have f_m4 := (HR.out.get 3 rfl).cell 4 rfl
  have f_m5 := (HR.out.get 3 rfl).cell 5 rfl
  go_wp2_with fail
  refine (AHV1.out _).mono ?_
  rintro e w15 ⟨rfl, hbw15⟩
  clear f_m0 f_m1 f_m2 f_m3 f_m4 f_m5
  go_upto_region 21 with (fail)
  refine wp_abs2 (fun W => Below w.heap.size w W ∧ Rs [(w14.heap.size, [.int .i64 sN, .int .i64 sD]), (g_sp, [.int .i64 sN, .int .i64 sD]), (w7.heap.size, [.int .i64 n0, .int .i64 n1, .int .i64 n2, .int .i64 n3, .int .i64 n4, .int .i64 n5]), (w1.heap.size, [.int .i64 m0, .int .i64 m1, .int .i64 m2, .int .i64 m3, .int .i64 m4, .int .i64 m5]), (w.heap.size + 1 + 1 + 1, [.int .u8 h0, .int .u8 h1, .int .u8 h2])] W) (have gx := (go_on HB.out HR.out hbw15 (by repeat (first | assumption | exact Below.refl _ _ | refine below_drewN ?_ _ | refine Below.drew ?_ | refine Below.alloc ?_ (by first | (simp; done) | (simp; omega) | omega) _ | refine Below.setCell ?_ (by first | (simp; done) | (simp; omega) | omega) _))); ⟨gx.1, gx.2⟩) ?_
  rintro W15 ⟨HBW15, HRW15⟩
  clear HB HR
  have HB := Lib.hid HBW15; have HR := Lib.hid HRW15; clear HBW15 HRW15
  clear hbw15
  have f_n0 := (HR.out.get 2 rfl).cell 0 rfl
  have f_n1 := (HR.out.get 2 rfl).cell 1 rfl
  have f_n2 := (HR.out.get 2 rfl).cell 2 rfl
  have f_n3 := (HR.out.get 2 rfl).cell 3 rfl
  have f_n4 := (HR.out.get 2 rfl).cell 4 rfl
  have f_n5 := (HR.out.get 2 rfl).cell 5 rfl
  go_wp2_with fail
  refine (AHV2.out _).mono ?_
  rintro e w16 ⟨rfl, hbw16⟩
  clear f_n0 f_n1 f_n2 f_n3 f_n4 f_n5
  go_upto_region 22 with (fail)
  refine wp_abs2 (fun W => Below w.heap.size w W ∧ Rs [(w14.heap.size, [.int .i64 sN, .int .i64 sD]), (g_sp, [.int .i64 sN, .int .i64 sD]), (w7.heap.size, [.int .i64 n0, .int .i64 n1, .int .i64 n2, .int .i64 n3, .int .i64 n4, .int .i64 n5]), (w1.heap.size, [.int .i64 m0, .int .i64 m1, .int .i64 m2, .int .i64 m3, .int .i64 m4, .int .i64 m5]), (w.heap.size + 1 + 1 + 1, [.int .u8 h0, .int .u8 h1, .int .u8 h2])] W) (have gx := (go_on HB.out HR.out hbw16 (by repeat (first | assumption | exact Below.refl _ _ | refine below_drewN ?_ _ | refine Below.drew ?_ | refine Below.alloc ?_ (by first | (simp; done) | (simp; omega) | omega) _ | refine Below.setCell ?_ (by first | (simp; done) | (simp; omega) | omega) _))); ⟨gx.1, gx.2⟩) ?_
  rintro W16 ⟨HBW16, HRW16⟩
  clear HB HR
  have HB := Lib.hid HBW16; have HR := Lib.hid HRW16; clear HBW16 HRW16
  clear hbw16
  have f_tp0 := (HR.out.get 0 rfl).cell 0 rfl
  have f_tp1 := (HR.out.get 0 rfl).cell 1 rfl
  have f_sp0 := (HR.out.get 1 rfl).cell 0 rfl
  have f_sp1 := (HR.out.get 1 rfl).cell 1 rfl
  have f_h0 := (HR.out.get 4 rfl).cell 0 rfl
  have f_h1 := (HR.out.get 4 rfl).cell 1 rfl
  have f_h2 := (HR.out.get 4 rfl).cell 2 rfl
  have ez1 := EZ1.out; have ez2 := EZ2.out
  have z_tp := (HR.out.get 0 rfl).lt
  have z_sp := (HR.out.get 1 rfl).lt
  have z_h := (HR.out.get 4 rfl).lt
  refine region_all (by kernel_rfl) (by kernel_rfl) ?_
  repeat (go_big_quiet_step ((go_at_call 33; exact held_of _ (Nat.le_refl _) (AHK.out _))))
  refine wpQuiet_nil ?_
  rintro w' ⟨⟨w0, hb⟩, rfl⟩
  obtain ⟨hc, hf⟩ := bcell hb
  have hz := hb.size
  try simp at hz
  try have z0 : w.heap.size < w'.heap.size := (by omega)
  try have z1 : w.heap.size + 1 < w'.heap.size := (by omega)
  try have z2 : w.heap.size + 1 + 1 < w'.heap.size := (by omega)
  go_upto_region 24 with (fail)
  clear hc hf hz ez1 ez2 f_tp0 f_tp1 f_sp0 f_sp1 f_h0 f_h1 f_h2 z_tp z_sp z_h
  refine wp_abs2 (fun W => Below w.heap.size w W ∧ Rs [(w7.heap.size, [.int .i64 n0, .int .i64 n1, .int .i64 n2, .int .i64 n3, .int .i64 n4, .int .i64 n5]), (w1.heap.size, [.int .i64 m0, .int .i64 m1, .int .i64 m2, .int .i64 m3, .int .i64 m4, .int .i64 m5])] W) (have gx := (go_on HB.out HR.out hb (by repeat (first | assumption | exact Below.refl _ _ | refine below_drewN ?_ _ | refine Below.drew ?_ | refine Below.alloc ?_ (by first | (simp; done) | (simp; omega) | omega) _ | refine Below.setCell ?_ (by first | (simp; done) | (simp; omega) | omega) _))); ⟨gx.1, (Rs.sub gx.2 (by simp))⟩) ?_
  rintro W17 ⟨HBW17, HRW17⟩
  clear HB HR
  have HB := Lib.hid HBW17; have HR := Lib.hid HRW17; clear HBW17 HRW17
  clear hb
  have f_m0 := (HR.out.get 1 rfl).cell 0 rfl
  have f_m1 := (HR.out.get 1 rfl).cell 1 rfl
  have f_m2 := (HR.out.get 1 rfl).cell 2 rfl
  have f_m3 := (HR.out.get 1 rfl).cell 3 rfl
  have f_m4 := (HR.out.get 1 rfl).cell 4 rfl
  have f_m5 := (HR.out.get 1 rfl).cell 5 rfl
  go_wp2_with fail
  refine (AHO.out _).mono ?_
  rintro e w18 ⟨rfl, hbw18⟩
  clear f_m0 f_m1 f_m2 f_m3 f_m4 f_m5
  go_upto_region 25 with (fail)
  refine wp_abs2 (fun W => Below w.heap.size w W ∧ Rs [(w18.heap.size, [.int .i64 r0, .int .i64 r1, .int .i64 r2, .int .i64 r3, .int .i64 r4, .int .i64 r5]), (w18.heap.size + 1, [.int .i64 a00, .int .i64 a01, .int .i64 a02, .int .i64 a10, .int .i64 a11, .int .i64 a12, .int .i64 a20, .int .i64 a21, .int .i64 a22]), (w7.heap.size, [.int .i64 n0, .int .i64 n1, .int .i64 n2, .int .i64 n3, .int .i64 n4, .int .i64 n5]), (w1.heap.size, [.int .i64 m0, .int .i64 m1, .int .i64 m2, .int .i64 m3, .int .i64 m4, .int .i64 m5])] W) (have gx := (go_on HB.out HR.out hbw18 (by repeat (first | assumption | exact Below.refl _ _ | refine below_drewN ?_ _ | refine Below.drew ?_ | refine Below.alloc ?_ (by first | (simp; done) | (simp; omega) | omega) _ | refine Below.setCell ?_ (by first | (simp; done) | (simp; omega) | omega) _))); ⟨gx.1, (Rs.cons (at6 (by first | (simp; done) | (simp; omega) | omega) (by go_simp) (by go_simp) (by go_simp) (by go_simp) (by go_simp) (by go_simp)) (Rs.cons (at9 (by first | (simp; done) | (simp; omega) | omega) (by go_simp) (by go_simp) (by go_simp) (by go_simp) (by go_simp) (by go_simp) (by go_simp) (by go_simp) (by go_simp)) gx.2))⟩) ?_
  rintro W18 ⟨HBW18, HRW18⟩
  clear HB HR
  have HB := Lib.hid HBW18; have HR := Lib.hid HRW18; clear HBW18 HRW18
  clear hbw18
  have f_p0 := (HR.out.get 1 rfl).cell 0 rfl
  have f_p1 := (HR.out.get 1 rfl).cell 1 rfl
  have f_p2 := (HR.out.get 1 rfl).cell 2 rfl
  have f_p3 := (HR.out.get 1 rfl).cell 3 rfl
  have f_p4 := (HR.out.get 1 rfl).cell 4 rfl
  have f_p5 := (HR.out.get 1 rfl).cell 5 rfl
  have f_p6 := (HR.out.get 1 rfl).cell 6 rfl
  have f_p7 := (HR.out.get 1 rfl).cell 7 rfl
  have f_p8 := (HR.out.get 1 rfl).cell 8 rfl
  have f_m0 := (HR.out.get 3 rfl).cell 0 rfl
  have f_m1 := (HR.out.get 3 rfl).cell 1 rfl
  have f_m2 := (HR.out.get 3 rfl).cell 2 rfl
  have f_m3 := (HR.out.get 3 rfl).cell 3 rfl
  have f_m4 := (HR.out.get 3 rfl).cell 4 rfl
  have f_m5 := (HR.out.get 3 rfl).cell 5 rfl
  go_wp2_with fail
  refine (AHU.out _).mono ?_
  rintro e w19 ⟨rfl, hbw19⟩
  clear f_p0 f_p1 f_p2 f_p3 f_p4 f_p5 f_p6 f_p7 f_p8 f_m0 f_m1 f_m2 f_m3 f_m4 f_m5
  go_upto_region 26 with (fail)
  refine wp_abs2 (fun W => Below w.heap.size w W ∧ Rs [(w19.heap.size, [.int .i64 t0, .int .i64 t1, .int .i64 t2, .int .i64 t3, .int .i64 t4, .int .i64 t5]), (w18.heap.size, [.int .i64 r0, .int .i64 r1, .int .i64 r2, .int .i64 r3, .int .i64 r4, .int .i64 r5]), (w18.heap.size + 1, [.int .i64 a00, .int .i64 a01, .int .i64 a02, .int .i64 a10, .int .i64 a11, .int .i64 a12, .int .i64 a20, .int .i64 a21, .int .i64 a22]), (w7.heap.size, [.int .i64 n0, .int .i64 n1, .int .i64 n2, .int .i64 n3, .int .i64 n4, .int .i64 n5]), (w1.heap.size, [.int .i64 m0, .int .i64 m1, .int .i64 m2, .int .i64 m3, .int .i64 m4, .int .i64 m5])] W) (have gx := (go_on HB.out HR.out hbw19 (by repeat (first | assumption | exact Below.refl _ _ | refine below_drewN ?_ _ | refine Below.drew ?_ | refine Below.alloc ?_ (by first | (simp; done) | (simp; omega) | omega) _ | refine Below.setCell ?_ (by first | (simp; done) | (simp; omega) | omega) _))); ⟨gx.1, (Rs.cons (at6 (by first | (simp; done) | (simp; omega) | omega) (by go_simp) (by go_simp) (by go_simp) (by go_simp) (by go_simp) (by go_simp)) gx.2)⟩) ?_
  rintro W19 ⟨HBW19, HRW19⟩
  clear HB HR
  have HB := Lib.hid HBW19; have HR := Lib.hid HRW19; clear HBW19 HRW19
  clear hbw19
  have f_p0 := (HR.out.get 2 rfl).cell 0 rfl
  have f_p1 := (HR.out.get 2 rfl).cell 1 rfl
  have f_p2 := (HR.out.get 2 rfl).cell 2 rfl
  have f_p3 := (HR.out.get 2 rfl).cell 3 rfl
  have f_p4 := (HR.out.get 2 rfl).cell 4 rfl
  have f_p5 := (HR.out.get 2 rfl).cell 5 rfl
  have f_p6 := (HR.out.get 2 rfl).cell 6 rfl
  have f_p7 := (HR.out.get 2 rfl).cell 7 rfl
  have f_p8 := (HR.out.get 2 rfl).cell 8 rfl
  go_wp2_with fail
  refine (AHG.out _).mono ?_
  rintro e w20 ⟨rfl, hbw20⟩
  clear f_p0 f_p1 f_p2 f_p3 f_p4 f_p5 f_p6 f_p7 f_p8
  go_upto_region 27 with (fail)
  refine wp_abs2 (fun W => Below w.heap.size w W ∧ Rs [(w19.heap.size, [.int .i64 t0, .int .i64 t1, .int .i64 t2, .int .i64 t3, .int .i64 t4, .int .i64 t5]), (w18.heap.size, [.int .i64 r0, .int .i64 r1, .int .i64 r2, .int .i64 r3, .int .i64 r4, .int .i64 r5]), (w18.heap.size + 1, [.int .i64 a00, .int .i64 a01, .int .i64 a02, .int .i64 a10, .int .i64 a11, .int .i64 a12, .int .i64 a20, .int .i64 a21, .int .i64 a22]), (w7.heap.size, [.int .i64 n0, .int .i64 n1, .int .i64 n2, .int .i64 n3, .int .i64 n4, .int .i64 n5]), (w1.heap.size, [.int .i64 m0, .int .i64 m1, .int .i64 m2, .int .i64 m3, .int .i64 m4, .int .i64 m5])] W) (have gx := (go_on HB.out HR.out hbw20 (by repeat (first | assumption | exact Below.refl _ _ | refine below_drewN ?_ _ | refine Below.drew ?_ | refine Below.alloc ?_ (by first | (simp; done) | (simp; omega) | omega) _ | refine Below.setCell ?_ (by first | (simp; done) | (simp; omega) | omega) _))); ⟨gx.1, gx.2⟩) ?_
  rintro W20 ⟨HBW20, HRW20⟩
  clear HB HR
  have HB := Lib.hid HBW20; have HR := Lib.hid HRW20; clear HBW20 HRW20
  clear hbw20
  have f_m0 := (HR.out.get 4 rfl).cell 0 rfl
  have f_m1 := (HR.out.get 4 rfl).cell 1 rfl
  have f_m2 := (HR.out.get 4 rfl).cell 2 rfl
  have f_m3 := (HR.out.get 4 rfl).cell 3 rfl
  have f_m4 := (HR.out.get 4 rfl).cell 4 rfl
  have f_m5 := (HR.out.get 4 rfl).cell 5 rfl
  go_wp2_with fail
  refine (AHL1.out _).mono ?_
  rintro e w21 ⟨rfl, hbw21⟩
  clear f_m0 f_m1 f_m2 f_m3 f_m4 f_m5
  go_upto_region 28 with (fail)
  refine wp_abs2 (fun W => Below w.heap.size w W ∧ Rs [(w19.heap.size, [.int .i64 t0, .int .i64 t1, .int .i64 t2, .int .i64 t3, .int .i64 t4, .int .i64 t5]), (w18.heap.size, [.int .i64 r0, .int .i64 r1, .int .i64 r2, .int .i64 r3, .int .i64 r4, .int .i64 r5]), (w18.heap.size + 1, [.int .i64 a00, .int .i64 a01, .int .i64 a02, .int .i64 a10, .int .i64 a11, .int .i64 a12, .int .i64 a20, .int .i64 a21, .int .i64 a22]), (w7.heap.size, [.int .i64 n0, .int .i64 n1, .int .i64 n2, .int .i64 n3, .int .i64 n4, .int .i64 n5]), (w1.heap.size, [.int .i64 m0, .int .i64 m1, .int .i64 m2, .int .i64 m3, .int .i64 m4, .int .i64 m5])] W) (have gx := (go_on HB.out HR.out hbw21 (by repeat (first | assumption | exact Below.refl _ _ | refine below_drewN ?_ _ | refine Below.drew ?_ | refine Below.alloc ?_ (by first | (simp; done) | (simp; omega) | omega) _ | refine Below.setCell ?_ (by first | (simp; done) | (simp; omega) | omega) _))); ⟨gx.1, gx.2⟩) ?_
  rintro W21 ⟨HBW21, HRW21⟩
  clear HB HR
  have HB := Lib.hid HBW21; have HR := Lib.hid HRW21; clear HBW21 HRW21
  clear hbw21
  have f_n0 := (HR.out.get 3 rfl).cell 0 rfl
  have f_n1 := (HR.out.get 3 rfl).cell 1 rfl
  have f_n2 := (HR.out.get 3 rfl).cell 2 rfl
  have f_n3 := (HR.out.get 3 rfl).cell 3 rfl
  have f_n4 := (HR.out.get 3 rfl).cell 4 rfl
  have f_n5 := (HR.out.get 3 rfl).cell 5 rfl
  go_wp2_with fail
  refine (AHL2.out _).mono ?_
  rintro e w22 ⟨rfl, hbw22⟩
  clear f_n0 f_n1 f_n2 f_n3 f_n4 f_n5
  go_upto_region 29 with (fail)
  refine wp_abs2 (fun W => Below w.heap.size w W ∧ Rs [(w19.heap.size, [.int .i64 t0, .int .i64 t1, .int .i64 t2, .int .i64 t3, .int .i64 t4, .int .i64 t5]), (w18.heap.size, [.int .i64 r0, .int .i64 r1, .int .i64 r2, .int .i64 r3, .int .i64 r4, .int .i64 r5]), (w18.heap.size + 1, [.int .i64 a00, .int .i64 a01, .int .i64 a02, .int .i64 a10, .int .i64 a11, .int .i64 a12, .int .i64 a20, .int .i64 a21, .int .i64 a22]), (w1.heap.size, [.int .i64 m0, .int .i64 m1, .int .i64 m2, .int .i64 m3, .int .i64 m4, .int .i64 m5])] W) (have gx := (go_on HB.out HR.out hbw22 (by repeat (first | assumption | exact Below.refl _ _ | refine below_drewN ?_ _ | refine Below.drew ?_ | refine Below.alloc ?_ (by first | (simp; done) | (simp; omega) | omega) _ | refine Below.setCell ?_ (by first | (simp; done) | (simp; omega) | omega) _))); ⟨gx.1, (Rs.sub gx.2 (by simp))⟩) ?_
  rintro W22 ⟨HBW22, HRW22⟩
  clear HB HR
  have HB := Lib.hid HBW22; have HR := Lib.hid HRW22; clear HBW22 HRW22
  clear hbw22
  have f_r0 := (HR.out.get 1 rfl).cell 0 rfl
  have f_r1 := (HR.out.get 1 rfl).cell 1 rfl
  have f_r2 := (HR.out.get 1 rfl).cell 2 rfl
  have f_r3 := (HR.out.get 1 rfl).cell 3 rfl
  have f_r4 := (HR.out.get 1 rfl).cell 4 rfl
  have f_r5 := (HR.out.get 1 rfl).cell 5 rfl
  go_wp2_with fail
  refine (AHE.out _).mono ?_
  rintro e w23 ⟨rfl, hbw23⟩
  clear f_r0 f_r1 f_r2 f_r3 f_r4 f_r5
  go_upto_region 30 with (fail)
  refine wp_abs2 (fun W => Below w.heap.size w W ∧ Rs [(w19.heap.size, [.int .i64 t0, .int .i64 t1, .int .i64 t2, .int .i64 t3, .int .i64 t4, .int .i64 t5]), (w18.heap.size, [.int .i64 r0, .int .i64 r1, .int .i64 r2, .int .i64 r3, .int .i64 r4, .int .i64 r5]), (w18.heap.size + 1, [.int .i64 a00, .int .i64 a01, .int .i64 a02, .int .i64 a10, .int .i64 a11, .int .i64 a12, .int .i64 a20, .int .i64 a21, .int .i64 a22]), (w1.heap.size, [.int .i64 m0, .int .i64 m1, .int .i64 m2, .int .i64 m3, .int .i64 m4, .int .i64 m5])] W) (have gx := (go_on HB.out HR.out hbw23 (by repeat (first | assumption | exact Below.refl _ _ | refine below_drewN ?_ _ | refine Below.drew ?_ | refine Below.alloc ?_ (by first | (simp; done) | (simp; omega) | omega) _ | refine Below.setCell ?_ (by first | (simp; done) | (simp; omega) | omega) _))); ⟨gx.1, gx.2⟩) ?_
  rintro W23 ⟨HBW23, HRW23⟩
  clear HB HR
  have HB := Lib.hid HBW23; have HR := Lib.hid HRW23; clear HBW23 HRW23
  clear hbw23
  have dst := decide_eq_false (Int.not_lt.mpr hst)
  go_upto_region 32 with (fail)
  refine wp_abs2 (fun W => Below w.heap.size w W ∧ Rs [(w19.heap.size, [.int .i64 t0, .int .i64 t1, .int .i64 t2, .int .i64 t3, .int .i64 t4, .int .i64 t5]), (w18.heap.size, [.int .i64 r0, .int .i64 r1, .int .i64 r2, .int .i64 r3, .int .i64 r4, .int .i64 r5]), (w18.heap.size + 1, [.int .i64 a00, .int .i64 a01, .int .i64 a02, .int .i64 a10, .int .i64 a11, .int .i64 a12, .int .i64 a20, .int .i64 a21, .int .i64 a22]), (w1.heap.size, [.int .i64 m0, .int .i64 m1, .int .i64 m2, .int .i64 m3, .int .i64 m4, .int .i64 m5])] W) (have gx := (go_on HB.out HR.out (Below.refl _ _) (by repeat (first | assumption | exact Below.refl _ _ | refine below_drewN ?_ _ | refine Below.drew ?_ | refine Below.alloc ?_ (by first | (simp; done) | (simp; omega) | omega) _ | refine Below.setCell ?_ (by first | (simp; done) | (simp; omega) | omega) _))); ⟨gx.1, gx.2⟩) ?_
  rintro W24 ⟨HBW24, HRW24⟩
  clear HB HR
  have HB := Lib.hid HBW24; have HR := Lib.hid HRW24; clear HBW24 HRW24
  have f_p0 := (HR.out.get 2 rfl).cell 0 rfl
  have f_p1 := (HR.out.get 2 rfl).cell 1 rfl
  have f_p2 := (HR.out.get 2 rfl).cell 2 rfl
  have f_p3 := (HR.out.get 2 rfl).cell 3 rfl
  have f_p4 := (HR.out.get 2 rfl).cell 4 rfl
  have f_p5 := (HR.out.get 2 rfl).cell 5 rfl
  have f_p6 := (HR.out.get 2 rfl).cell 6 rfl
  have f_p7 := (HR.out.get 2 rfl).cell 7 rfl
  have f_p8 := (HR.out.get 2 rfl).cell 8 rfl
  go_wp2_with fail
  refine (AHF.out _).mono ?_
  rintro e w25 ⟨rfl, hbw25⟩
  clear f_p0 f_p1 f_p2 f_p3 f_p4 f_p5 f_p6 f_p7 f_p8
  rcases hcase with ⟨h3, rfl, rfl⟩ | ⟨rfl, rfl, rfl, rfl, rfl, rfl, rfl, rfl, rfl, hdd⟩
  · have n3 : (c3 != 0) = true := by simp [h3]
    go_wp2
    go_ret
    refine ⟨rfl, ?_⟩
    exact HB.out.trans (Below.mono hbw25 HB.out.size)
  · have n3 : ((0 : Int) != 0) = false := rfl
    go_upto_region 34 with (fail)
    refine wp_abs2 (fun W => Below w.heap.size w W ∧ Rs [(w19.heap.size, [.int .i64 r0, .int .i64 r1, .int .i64 r2, .int .i64 r3, .int .i64 r4, .int .i64 r5]), (w18.heap.size, [.int .i64 r0, .int .i64 r1, .int .i64 r2, .int .i64 r3, .int .i64 r4, .int .i64 r5]), (w1.heap.size, [.int .i64 m0, .int .i64 m1, .int .i64 m2, .int .i64 m3, .int .i64 m4, .int .i64 m5])] W) (have gx := (go_on HB.out HR.out hbw25 (by repeat (first | assumption | exact Below.refl _ _ | refine below_drewN ?_ _ | refine Below.drew ?_ | refine Below.alloc ?_ (by first | (simp; done) | (simp; omega) | omega) _ | refine Below.setCell ?_ (by first | (simp; done) | (simp; omega) | omega) _))); ⟨gx.1, (Rs.sub gx.2 (by simp))⟩) ?_
    rintro W25 ⟨HBW25, HRW25⟩
    clear HB HR
    have HB := Lib.hid HBW25; have HR := Lib.hid HRW25; clear HBW25 HRW25
    clear hbw25
    clear n3
    have f_tw0 := (HR.out.get 0 rfl).cell 0 rfl
    have f_tw1 := (HR.out.get 0 rfl).cell 1 rfl
    have f_tw2 := (HR.out.get 0 rfl).cell 2 rfl
    have f_tw3 := (HR.out.get 0 rfl).cell 3 rfl
    have f_tw4 := (HR.out.get 0 rfl).cell 4 rfl
    have f_tw5 := (HR.out.get 0 rfl).cell 5 rfl
    have f_r0 := (HR.out.get 1 rfl).cell 0 rfl
    have f_r1 := (HR.out.get 1 rfl).cell 1 rfl
    have f_r2 := (HR.out.get 1 rfl).cell 2 rfl
    have f_r3 := (HR.out.get 1 rfl).cell 3 rfl
    have f_r4 := (HR.out.get 1 rfl).cell 4 rfl
    have f_r5 := (HR.out.get 1 rfl).cell 5 rfl
    go_upto_region 36 with (fail)
    refine wp_abs2 (fun W => Below w.heap.size w W ∧ Rs [(w18.heap.size, [.int .i64 r0, .int .i64 r1, .int .i64 r2, .int .i64 r3, .int .i64 r4, .int .i64 r5]), (w1.heap.size, [.int .i64 m0, .int .i64 m1, .int .i64 m2, .int .i64 m3, .int .i64 m4, .int .i64 m5])] W) (have gx := (go_on HB.out HR.out (Below.refl _ _) (by repeat (first | assumption | exact Below.refl _ _ | refine below_drewN ?_ _ | refine Below.drew ?_ | refine Below.alloc ?_ (by first | (simp; done) | (simp; omega) | omega) _ | refine Below.setCell ?_ (by first | (simp; done) | (simp; omega) | omega) _))); ⟨gx.1, (Rs.sub gx.2 (by simp))⟩) ?_
    rintro W26 ⟨HBW26, HRW26⟩
    clear HB HR
    have HB := Lib.hid HBW26; have HR := Lib.hid HRW26; clear HBW26 HRW26
    clear hdd f_tw0 f_tw1 f_tw2 f_tw3 f_tw4 f_tw5 f_r0 f_r1 f_r2 f_r3 f_r4 f_r5
    have f_r0 := (HR.out.get 0 rfl).cell 0 rfl
    have f_r1 := (HR.out.get 0 rfl).cell 1 rfl
    have f_r2 := (HR.out.get 0 rfl).cell 2 rfl
    have f_r3 := (HR.out.get 0 rfl).cell 3 rfl
    have f_r4 := (HR.out.get 0 rfl).cell 4 rfl
    have f_r5 := (HR.out.get 0 rfl).cell 5 rfl
    go_upto_region 39 with (fail)
    refine wp_abs2 (fun W => Below w.heap.size w W ∧ Rs [(w18.heap.size, [.int .i64 r0, .int .i64 r1, .int .i64 r2, .int .i64 r3, .int .i64 r4, .int .i64 r5]), (w1.heap.size, [.int .i64 m0, .int .i64 m1, .int .i64 m2, .int .i64 m3, .int .i64 m4, .int .i64 m5])] W) (have gx := (go_on HB.out HR.out (Below.refl _ _) (by repeat (first | assumption | exact Below.refl _ _ | refine below_drewN ?_ _ | refine Below.drew ?_ | refine Below.alloc ?_ (by first | (simp; done) | (simp; omega) | omega) _ | refine Below.setCell ?_ (by first | (simp; done) | (simp; omega) | omega) _))); ⟨gx.1, gx.2⟩) ?_
    rintro W27 ⟨HBW27, HRW27⟩
    clear HB HR
    have HB := Lib.hid HBW27; have HR := Lib.hid HRW27; clear HBW27 HRW27
    clear f_r0 f_r1 f_r2 f_r3 f_r4 f_r5
    have f_r0 := (HR.out.get 0 rfl).cell 0 rfl
    have f_r1 := (HR.out.get 0 rfl).cell 1 rfl
    have f_r2 := (HR.out.get 0 rfl).cell 2 rfl
    have f_r3 := (HR.out.get 0 rfl).cell 3 rfl
    have f_r4 := (HR.out.get 0 rfl).cell 4 rfl
    have f_r5 := (HR.out.get 0 rfl).cell 5 rfl
    have f_m0 := (HR.out.get 1 rfl).cell 0 rfl
    have f_m1 := (HR.out.get 1 rfl).cell 1 rfl
    have f_m2 := (HR.out.get 1 rfl).cell 2 rfl
    have f_m3 := (HR.out.get 1 rfl).cell 3 rfl
    have f_m4 := (HR.out.get 1 rfl).cell 4 rfl
    have f_m5 := (HR.out.get 1 rfl).cell 5 rfl
    have dl0 := decide_eq_true hl0
    have dl1 := decide_eq_true hl1
    have dl2 := decide_eq_true hl2
    have dl3 := decide_eq_true hl3
    have dl4 := decide_eq_true hl4
    have dl5 := decide_eq_true hl5
    have dl6 := decide_eq_true hl6
    have dl7 := decide_eq_true hl7
    have dl8 := decide_eq_true hl8
    go_wp2_with fail
    refine (AHZ.out _).mono ?_
    rintro e w28 ⟨rfl, hbw28⟩
    go_wp2
    go_ret
    refine ⟨rfl, ?_⟩
    exact HB.out.trans (Below.mono hbw28 HB.out.size)

end Go.Proofs.Ytdhlkhockpblhaa
