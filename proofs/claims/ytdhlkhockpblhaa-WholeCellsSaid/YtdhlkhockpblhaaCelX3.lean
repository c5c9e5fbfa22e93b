/-
  facettop: the metric of nine small numbers.
-/
import Derived.Test.YtdhlkhockpblhaaCelG
import Derived.Test.YtdhlkhockpblhaaCelX2
import Derived.Test.YtdhlkhockpblhaaCelE
import Derived.Test.YtdhlkhockpblhaaCelV
import Derived.Deep.RegionHeld3
import Derived.Deep.DeepCutAuto
namespace Go.Proofs.Ytdhlkhockpblhaa
open Go.RowKit
attribute [local irreducible] World.setCell

set_option linter.unusedSimpArgs false
set_option linter.unusedVariables false

set_option maxHeartbeats 1600000 in
set_option maxRecDepth 100000 in
theorem fmetric_ok (b0 b1 b2 b3 b4 b5 b6 b7 b8 t0 t1 t2 t3 t4 t5 t6 t7 t8 g0 g1 g2 g3 g4 g5 d : Int) (w : World) (HM : ∀ w : World, Calls Try.prog 55 #[.agg #[.int .i8 b0, .int .i8 b1, .int .i8 b2, .int .i8 b3, .int .i8 b4, .int .i8 b5, .int .i8 b6, .int .i8 b7, .int .i8 b8]] w fun e w' => e = .returned (.agg #[.int .i64 t0, .int .i64 t1, .int .i64 t2, .int .i64 t3, .int .i64 t4, .int .i64 t5, .int .i64 t6, .int .i64 t7, .int .i64 t8]) ∧ Below w.heap.size w w') (eg0 : wrap64 (t0 * t0 + t3 * t3 + t6 * t6) = g0) (eg1 : wrap64 (t1 * t1 + t4 * t4 + t7 * t7) = g1) (eg2 : wrap64 (t2 * t2 + t5 * t5 + t8 * t8) = g2) (eg3 : wrap64 (t1 * t2 + t4 * t5 + t7 * t8) = g3) (eg4 : wrap64 (t0 * t2 + t3 * t5 + t6 * t8) = g4) (eg5 : wrap64 (t0 * t1 + t3 * t4 + t6 * t7) = g5) (HD : ∀ w : World, Calls Try.prog 35 #[.agg #[.int .i64 t0, .int .i64 t1, .int .i64 t2, .int .i64 t3, .int .i64 t4, .int .i64 t5, .int .i64 t6, .int .i64 t7, .int .i64 t8]] w fun e w' => e = .returned (.tuple #[.int .i64 d, .int .i64 0]) ∧ Below w.heap.size w w'):
    Calls Try.prog 26 #[.agg #[.int .i8 b0, .int .i8 b1, .int .i8 b2, .int .i8 b3, .int .i8 b4, .int .i8 b5, .int .i8 b6, .int .i8 b7, .int .i8 b8]] w fun e w' => e = .returned (.tuple #[.agg #[.int .i64 g0, .int .i64 g1, .int .i64 g2, .int .i64 g3, .int .i64 g4, .int .i64 g5], .bool (d != 0)]) ∧ Below w.heap.size w w' := by
  have A1 := Lib.hid HM; have A2 := Lib.hid HD; clear HM HD
  have X0 := fun w => fdot_any t0 t3 t6 t0 t3 t6 w
  rw [eg0] at X0
  have D0 := Lib.hid X0
  have X1 := fun w => fdot_any t1 t4 t7 t1 t4 t7 w
  rw [eg1] at X1
  have D1 := Lib.hid X1
  have X2 := fun w => fdot_any t2 t5 t8 t2 t5 t8 w
  rw [eg2] at X2
  have D2 := Lib.hid X2
  have X3 := fun w => fdot_any t1 t4 t7 t2 t5 t8 w
  rw [eg3] at X3
  have D3 := Lib.hid X3
  have X4 := fun w => fdot_any t0 t3 t6 t2 t5 t8 w
  rw [eg4] at X4
  have D4 := Lib.hid X4
  have X5 := fun w => fdot_any t0 t3 t6 t1 t4 t7 w
  rw [eg5] at X5
  have D5 := Lib.hid X5
  clear X0 eg0 X1 eg1 X2 eg2 X3 eg3 X4 eg4 X5 eg5
  go_enter Try.func26, Try.ntmps26
  go_wp2_with fail
  refine (A1.out _).mono ?_
  rintro e w1 ⟨rfl, hb1⟩
  obtain ⟨hc1, hf1⟩ := bcell hb1
  have hz1 := hb1.size
  try simp at hz1
  have z1_0 : w.heap.size < w1.heap.size := by omega
  have z1_1 : w.heap.size + 1 < w1.heap.size := by omega
  go_wp2
  refine wp_loop_rounds 4 ?_
  rw [rounds_succ]
  go_wp2
  go_region
  go_wp2
  rw [rounds_succ]
  go_wp2
  go_region
  go_wp2
  rw [rounds_succ]
  go_wp2
  go_region
  go_wp2
  rw [rounds_succ]
  go_wp2
  refine wp_abs (fun W => (Below w.heap.size w W) ∧ (W.cell? ⟨w1.heap.size + 1, 0, none⟩ = some (.int .i64 t0)) ∧ (W.cell? ⟨w1.heap.size + 1, 1, none⟩ = some (.int .i64 t3)) ∧ (W.cell? ⟨w1.heap.size + 1, 2, none⟩ = some (.int .i64 t6)) ∧ (W.cell? ⟨w1.heap.size + 1, 3, none⟩ = some (.int .i64 t1)) ∧ (W.cell? ⟨w1.heap.size + 1, 4, none⟩ = some (.int .i64 t4)) ∧ (W.cell? ⟨w1.heap.size + 1, 5, none⟩ = some (.int .i64 t7)) ∧ (W.cell? ⟨w1.heap.size + 1, 6, none⟩ = some (.int .i64 t2)) ∧ (W.cell? ⟨w1.heap.size + 1, 7, none⟩ = some (.int .i64 t5)) ∧ (W.cell? ⟨w1.heap.size + 1, 8, none⟩ = some (.int .i64 t8)) ∧ (W.cell? ⟨w1.heap.size, 0, none⟩ = some (.int .i64 t0)) ∧ (W.cell? ⟨w1.heap.size, 1, none⟩ = some (.int .i64 t1)) ∧ (W.cell? ⟨w1.heap.size, 2, none⟩ = some (.int .i64 t2)) ∧ (W.cell? ⟨w1.heap.size, 3, none⟩ = some (.int .i64 t3)) ∧ (W.cell? ⟨w1.heap.size, 4, none⟩ = some (.int .i64 t4)) ∧ (W.cell? ⟨w1.heap.size, 5, none⟩ = some (.int .i64 t5)) ∧ (W.cell? ⟨w1.heap.size, 6, none⟩ = some (.int .i64 t6)) ∧ (W.cell? ⟨w1.heap.size, 7, none⟩ = some (.int .i64 t7)) ∧ (W.cell? ⟨w1.heap.size, 8, none⟩ = some (.int .i64 t8)) ∧ (W.cell? ⟨w.heap.size + 1, 0, none⟩ = some (.int .i64 0)) ∧ (W.cell? ⟨w.heap.size + 1, 1, none⟩ = some (.int .i64 0)) ∧ (W.cell? ⟨w.heap.size + 1, 2, none⟩ = some (.int .i64 0)) ∧ (W.cell? ⟨w.heap.size + 1, 3, none⟩ = some (.int .i64 0)) ∧ (W.cell? ⟨w.heap.size + 1, 4, none⟩ = some (.int .i64 0)) ∧ (W.cell? ⟨w.heap.size + 1, 5, none⟩ = some (.int .i64 0)) ∧ (W.frozen? ⟨w.heap.size + 1, 0, none⟩ = false) ∧ (W.frozen? ⟨w.heap.size + 1, 1, none⟩ = false) ∧ (W.frozen? ⟨w.heap.size + 1, 2, none⟩ = false) ∧ (W.frozen? ⟨w.heap.size + 1, 3, none⟩ = false) ∧ (W.frozen? ⟨w.heap.size + 1, 4, none⟩ = false) ∧ (W.frozen? ⟨w.heap.size + 1, 5, none⟩ = false) ∧ (w1.heap.size + 1 < W.heap.size) ∧ (w.heap.size + 1 < W.heap.size)) ⟨by
        repeat (first | exact Below.refl _ _ | assumption | exact Below.alloc (Below.refl _ _) (Nat.le_refl _) _ | refine Below.setCell ?_ (by first | (simp; done) | (simp; omega) | omega) _ | refine below_drewN ?_ _ | refine Below.alloc ?_ (by first | (simp; done) | (simp; omega) | omega) _ | refine Below.trans ?_ (Below.mono (by assumption) (by first | (simp; done) | (simp; omega) | omega))), by go_simp, by go_simp, by go_simp, by go_simp, by go_simp, by go_simp, by go_simp, by go_simp, by go_simp, by go_simp, by go_simp, by go_simp, by go_simp, by go_simp, by go_simp, by go_simp, by go_simp, by go_simp, by go_simp, by go_simp, by go_simp, by go_simp, by go_simp, by go_simp, by go_simp, by go_simp, by go_simp, by go_simp, by go_simp, by go_simp, by (simp), by (simp; omega)⟩ ?_
  rintro W5 ⟨HBL, ft0, ft1, ft2, ft3, ft4, ft5, ft6, ft7, ft8, fq0, fq1, fq2, fq3, fq4, fq5, fq6, fq7, fq8, fr0, fr1, fr2, fr3, fr4, fr5, fz0, fz1, fz2, fz3, fz4, fz5, zW, zR⟩
  clear hc1 hf1
  have BL := Lib.hid HBL
  clear HBL
  have zM : w1.heap.size < W5.heap.size := by omega
  go_cut [7] from 31 to 61 (fun s wx => ∃ gb : Nat, s = .pointer (some ⟨gb, 0, none⟩) ∧ Below w.heap.size w wx ∧ gb < wx.heap.size ∧ w.heap.size + 1 < wx.heap.size ∧ w1.heap.size < wx.heap.size ∧ w.heap.size + 1 ≠ gb ∧ wx.cell? ⟨gb, 0, none⟩ = some (.int .i64 g0) ∧ wx.cell? ⟨gb, 1, none⟩ = some (.int .i64 g1) ∧ wx.cell? ⟨gb, 2, none⟩ = some (.int .i64 g2) ∧ wx.cell? ⟨gb, 3, none⟩ = some (.int .i64 g3) ∧ wx.cell? ⟨gb, 4, none⟩ = some (.int .i64 g4) ∧ wx.cell? ⟨gb, 5, none⟩ = some (.int .i64 g5) ∧ wx.cell? ⟨w1.heap.size, 0, none⟩ = some (.int .i64 t0) ∧ wx.cell? ⟨w1.heap.size, 1, none⟩ = some (.int .i64 t1) ∧ wx.cell? ⟨w1.heap.size, 2, none⟩ = some (.int .i64 t2) ∧ wx.cell? ⟨w1.heap.size, 3, none⟩ = some (.int .i64 t3) ∧ wx.cell? ⟨w1.heap.size, 4, none⟩ = some (.int .i64 t4) ∧ wx.cell? ⟨w1.heap.size, 5, none⟩ = some (.int .i64 t5) ∧ wx.cell? ⟨w1.heap.size, 6, none⟩ = some (.int .i64 t6) ∧ wx.cell? ⟨w1.heap.size, 7, none⟩ = some (.int .i64 t7) ∧ wx.cell? ⟨w1.heap.size, 8, none⟩ = some (.int .i64 t8) ∧ wx.cell? ⟨w.heap.size + 1, 0, none⟩ = some (.int .i64 0) ∧ wx.cell? ⟨w.heap.size + 1, 1, none⟩ = some (.int .i64 0) ∧ wx.cell? ⟨w.heap.size + 1, 2, none⟩ = some (.int .i64 0) ∧ wx.cell? ⟨w.heap.size + 1, 3, none⟩ = some (.int .i64 0) ∧ wx.cell? ⟨w.heap.size + 1, 4, none⟩ = some (.int .i64 0) ∧ wx.cell? ⟨w.heap.size + 1, 5, none⟩ = some (.int .i64 0) ∧ wx.frozen? ⟨w.heap.size + 1, 0, none⟩ = false ∧ wx.frozen? ⟨w.heap.size + 1, 1, none⟩ = false ∧ wx.frozen? ⟨w.heap.size + 1, 2, none⟩ = false ∧ wx.frozen? ⟨w.heap.size + 1, 3, none⟩ = false ∧ wx.frozen? ⟨w.heap.size + 1, 4, none⟩ = false ∧ wx.frozen? ⟨w.heap.size + 1, 5, none⟩ = false)
  case first =>
    go_region_held3 (fun w' => Below W5.heap.size W5 w' ∧ ∀ b o, b < W5.heap.size → w'.cell? ⟨b, o, none⟩ = W5.cell? ⟨b, o, none⟩) ((first | assumption | exact ⟨by assumption, by assumption⟩ | exact sb_of (by (repeat (first | assumption | exact And.left (by assumption) | exact Below.refl _ _ | refine below_drewN ?_ _ | refine Below.setCell ?_ (by first | (simp; done) | omega | (simp; omega)) _ | refine Below.alloc ?_ (by first | (simp; done) | omega | (simp; omega)) _ | refine Below.drew ?_))))) (first | (go_at_call 56; with_reducible refine (D0.out _).mono ?_; rintro e qa ⟨rfl, hqa⟩; have hsa := sb_call (Wc := W5) (by (repeat (first | assumption | exact And.left (by assumption) | exact Below.refl _ _ | refine below_drewN ?_ _ | refine Below.setCell ?_ (by first | (simp; done) | omega | (simp; omega)) _ | refine Below.alloc ?_ (by first | (simp; done) | omega | (simp; omega)) _ | refine Below.drew ?_))) hqa; have hla := hsa.1.size; have hka := hsa.2; obtain ⟨hca, hfa⟩ := bcell hqa; have hya := hqa.size; (try simp at hya); (try have za0 : W5.heap.size < qa.heap.size := (by omega))) | (go_at_call 56; with_reducible refine (D1.out _).mono ?_; rintro e qb ⟨rfl, hqb⟩; have hsb := sb_call (Wc := W5) (by (repeat (first | assumption | exact And.left (by assumption) | exact Below.refl _ _ | refine below_drewN ?_ _ | refine Below.setCell ?_ (by first | (simp; done) | omega | (simp; omega)) _ | refine Below.alloc ?_ (by first | (simp; done) | omega | (simp; omega)) _ | refine Below.drew ?_))) hqb; have hlb := hsb.1.size; have hkb := hsb.2; obtain ⟨hcb, hfb⟩ := bcell hqb; have hyb := hqb.size; (try simp at hyb); (try have zb0 : W5.heap.size < qb.heap.size := (by omega)); (try have zb1 : qa.heap.size < qb.heap.size := (by omega))) | (go_at_call 56; with_reducible refine (D2.out _).mono ?_; rintro e qc ⟨rfl, hqc⟩; have hsc := sb_call (Wc := W5) (by (repeat (first | assumption | exact And.left (by assumption) | exact Below.refl _ _ | refine below_drewN ?_ _ | refine Below.setCell ?_ (by first | (simp; done) | omega | (simp; omega)) _ | refine Below.alloc ?_ (by first | (simp; done) | omega | (simp; omega)) _ | refine Below.drew ?_))) hqc; have hlc := hsc.1.size; have hkc := hsc.2; obtain ⟨hcc, hfc⟩ := bcell hqc; have hyc := hqc.size; (try simp at hyc); (try have zc0 : W5.heap.size < qc.heap.size := (by omega)); (try have zc1 : qa.heap.size < qc.heap.size := (by omega)); (try have zc2 : qb.heap.size < qc.heap.size := (by omega))) | (go_at_call 56; with_reducible refine (D3.out _).mono ?_; rintro e qd ⟨rfl, hqd⟩; have hsd := sb_call (Wc := W5) (by (repeat (first | assumption | exact And.left (by assumption) | exact Below.refl _ _ | refine below_drewN ?_ _ | refine Below.setCell ?_ (by first | (simp; done) | omega | (simp; omega)) _ | refine Below.alloc ?_ (by first | (simp; done) | omega | (simp; omega)) _ | refine Below.drew ?_))) hqd; have hld := hsd.1.size; have hkd := hsd.2; obtain ⟨hcd, hfd⟩ := bcell hqd; have hyd := hqd.size; (try simp at hyd); (try have zd0 : W5.heap.size < qd.heap.size := (by omega)); (try have zd1 : qa.heap.size < qd.heap.size := (by omega)); (try have zd2 : qb.heap.size < qd.heap.size := (by omega)); (try have zd3 : qc.heap.size < qd.heap.size := (by omega))) | (go_at_call 56; with_reducible refine (D4.out _).mono ?_; rintro e qe ⟨rfl, hqe⟩; have hse := sb_call (Wc := W5) (by (repeat (first | assumption | exact And.left (by assumption) | exact Below.refl _ _ | refine below_drewN ?_ _ | refine Below.setCell ?_ (by first | (simp; done) | omega | (simp; omega)) _ | refine Below.alloc ?_ (by first | (simp; done) | omega | (simp; omega)) _ | refine Below.drew ?_))) hqe; have hle := hse.1.size; have hke := hse.2; obtain ⟨hce, hfe⟩ := bcell hqe; have hye := hqe.size; (try simp at hye); (try have ze0 : W5.heap.size < qe.heap.size := (by omega)); (try have ze1 : qa.heap.size < qe.heap.size := (by omega)); (try have ze2 : qb.heap.size < qe.heap.size := (by omega)); (try have ze3 : qc.heap.size < qe.heap.size := (by omega)); (try have ze4 : qd.heap.size < qe.heap.size := (by omega))) | (go_at_call 56; with_reducible refine (D5.out _).mono ?_; rintro e qf ⟨rfl, hqf⟩; have hsf := sb_call (Wc := W5) (by (repeat (first | assumption | exact And.left (by assumption) | exact Below.refl _ _ | refine below_drewN ?_ _ | refine Below.setCell ?_ (by first | (simp; done) | omega | (simp; omega)) _ | refine Below.alloc ?_ (by first | (simp; done) | omega | (simp; omega)) _ | refine Below.drew ?_))) hqf; have hlf := hsf.1.size; have hkf := hsf.2; obtain ⟨hcf, hff⟩ := bcell hqf; have hyf := hqf.size; (try simp at hyf); (try have zf0 : W5.heap.size < qf.heap.size := (by omega)); (try have zf1 : qa.heap.size < qf.heap.size := (by omega)); (try have zf2 : qb.heap.size < qf.heap.size := (by omega)); (try have zf3 : qc.heap.size < qf.heap.size := (by omega)); (try have zf4 : qd.heap.size < qf.heap.size := (by omega)); (try have zf5 : qe.heap.size < qf.heap.size := (by omega))))
    all_goals
      have er0 : qf.cell? ⟨w.heap.size + 1, 0, none⟩ = some (.int .i64 0) := (hsf.2 _ _ zR).trans fr0
      have er1 : qf.cell? ⟨w.heap.size + 1, 1, none⟩ = some (.int .i64 0) := (hsf.2 _ _ zR).trans fr1
      have er2 : qf.cell? ⟨w.heap.size + 1, 2, none⟩ = some (.int .i64 0) := (hsf.2 _ _ zR).trans fr2
      have er3 : qf.cell? ⟨w.heap.size + 1, 3, none⟩ = some (.int .i64 0) := (hsf.2 _ _ zR).trans fr3
      have er4 : qf.cell? ⟨w.heap.size + 1, 4, none⟩ = some (.int .i64 0) := (hsf.2 _ _ zR).trans fr4
      have er5 : qf.cell? ⟨w.heap.size + 1, 5, none⟩ = some (.int .i64 0) := (hsf.2 _ _ zR).trans fr5
      have ez0 : qf.frozen? ⟨w.heap.size + 1, 0, none⟩ = false := (hsf.1.frozen (p := ⟨w.heap.size + 1, 0, none⟩) zR).trans fz0
      have ez1 : qf.frozen? ⟨w.heap.size + 1, 1, none⟩ = false := (hsf.1.frozen (p := ⟨w.heap.size + 1, 1, none⟩) zR).trans fz1
      have ez2 : qf.frozen? ⟨w.heap.size + 1, 2, none⟩ = false := (hsf.1.frozen (p := ⟨w.heap.size + 1, 2, none⟩) zR).trans fz2
      have ez3 : qf.frozen? ⟨w.heap.size + 1, 3, none⟩ = false := (hsf.1.frozen (p := ⟨w.heap.size + 1, 3, none⟩) zR).trans fz3
      have ez4 : qf.frozen? ⟨w.heap.size + 1, 4, none⟩ = false := (hsf.1.frozen (p := ⟨w.heap.size + 1, 4, none⟩) zR).trans fz4
      have ez5 : qf.frozen? ⟨w.heap.size + 1, 5, none⟩ = false := (hsf.1.frozen (p := ⟨w.heap.size + 1, 5, none⟩) zR).trans fz5
      have em0 : qf.cell? ⟨w1.heap.size, 0, none⟩ = some (.int .i64 t0) := (hsf.2 _ _ zM).trans fq0
      have em1 : qf.cell? ⟨w1.heap.size, 1, none⟩ = some (.int .i64 t1) := (hsf.2 _ _ zM).trans fq1
      have em2 : qf.cell? ⟨w1.heap.size, 2, none⟩ = some (.int .i64 t2) := (hsf.2 _ _ zM).trans fq2
      have em3 : qf.cell? ⟨w1.heap.size, 3, none⟩ = some (.int .i64 t3) := (hsf.2 _ _ zM).trans fq3
      have em4 : qf.cell? ⟨w1.heap.size, 4, none⟩ = some (.int .i64 t4) := (hsf.2 _ _ zM).trans fq4
      have em5 : qf.cell? ⟨w1.heap.size, 5, none⟩ = some (.int .i64 t5) := (hsf.2 _ _ zM).trans fq5
      have em6 : qf.cell? ⟨w1.heap.size, 6, none⟩ = some (.int .i64 t6) := (hsf.2 _ _ zM).trans fq6
      have em7 : qf.cell? ⟨w1.heap.size, 7, none⟩ = some (.int .i64 t7) := (hsf.2 _ _ zM).trans fq7
      have em8 : qf.cell? ⟨w1.heap.size, 8, none⟩ = some (.int .i64 t8) := (hsf.2 _ _ zM).trans fq8
      clear ft0 fq0 ft1 fq1 ft2 fq2 ft3 fq3 ft4 fq4 ft5 fq5 ft6 fq6 ft7 fq7 ft8 fq8 fr0 fz0 fr1 fz1 fr2 fz2 fr3 fz3 fr4 fz4 fr5 fz5
      have zRb : w.heap.size + 1 < qf.heap.size := by omega
      have zMb : w1.heap.size < qf.heap.size := by omega
      have zRnW5 : w.heap.size + 1 ≠ W5.heap.size := by omega
      have zMnW5 : w1.heap.size ≠ W5.heap.size := by omega
      have zRnqa : w.heap.size + 1 ≠ qa.heap.size := by omega
      have zMnqa : w1.heap.size ≠ qa.heap.size := by omega
      have zRnqb : w.heap.size + 1 ≠ qb.heap.size := by omega
      have zMnqb : w1.heap.size ≠ qb.heap.size := by omega
      have zRnqc : w.heap.size + 1 ≠ qc.heap.size := by omega
      have zMnqc : w1.heap.size ≠ qc.heap.size := by omega
      have zRnqd : w.heap.size + 1 ≠ qd.heap.size := by omega
      have zMnqd : w1.heap.size ≠ qd.heap.size := by omega
      have zRnqe : w.heap.size + 1 ≠ qe.heap.size := by omega
      have zMnqe : w1.heap.size ≠ qe.heap.size := by omega
      have zRnqf : w.heap.size + 1 ≠ qf.heap.size := by omega
      have zMnqf : w1.heap.size ≠ qf.heap.size := by omega
      go_wp2
      go_meet
      refine ⟨_, rfl, BL.out.trans (Below.mono (show Below W5.heap.size W5 _ by (repeat (first | assumption | exact And.left (by assumption) | exact Below.refl _ _ | refine below_drewN ?_ _ | refine Below.setCell ?_ (by first | (simp; done) | omega | (simp; omega)) _ | refine Below.alloc ?_ (by first | (simp; done) | omega | (simp; omega)) _ | refine Below.drew ?_))) BL.out.size), ?_⟩
      (repeat' apply And.intro) <;> first | (go_simp; done) | (simp; omega) | omega | ((repeat' (first | assumption | refine keep_set ?_ ?_ | refine keep_alloc ?_ | (dsimp only; omega) | omega)); done)
  case rest =>
    obtain ⟨gb, rfl, HB2, hgb, hrw, hmw, hne, gy0, gy1, gy2, gy3, gy4, gy5, gm0, gm1, gm2, gm3, gm4, gm5, gm6, gm7, gm8, gr0, gr1, gr2, gr3, gr4, gr5, gz0, gz1, gz2, gz3, gz4, gz5⟩ := hcut
    go_wp2_with fail
    refine (A2.out _).mono ?_
    rintro e w8 ⟨rfl, hb8⟩
    obtain ⟨hc8, hf8⟩ := bcell hb8
    have hz8 := hb8.size
    have z80 : gb < w8.heap.size := by omega
    have z81 : w.heap.size + 1 < w8.heap.size := by omega
    go_wp2
    refine bodyPost_ret (v := .tuple #[.agg #[.int .i64 g0, .int .i64 g1, .int .i64 g2, .int .i64 g3, .int .i64 g4, .int .i64 g5], .bool (d != 0)]) (by simp [results, Try.results26, go_sem, wrap_add_l, wrap_add_r, wrap_sub_l, wrap_sub_r, wrap_mul_l, wrap_mul_r, wrap_neg, wrap_wrap, *]) rfl ⟨rfl, ?_⟩
    repeat (first | exact Below.refl _ _ | assumption | exact Below.alloc (Below.refl _ _) (Nat.le_refl _) _ | refine Below.setCell ?_ (by first | (simp; done) | (simp; omega) | omega) _ | refine below_drewN ?_ _ | refine Below.alloc ?_ (by first | (simp; done) | (simp; omega) | omega) _ | refine Below.trans ?_ (Below.mono (by assumption) (by first | (simp; done) | (simp; omega) | omega)))

end Go.Proofs.Ytdhlkhockpblhaa
