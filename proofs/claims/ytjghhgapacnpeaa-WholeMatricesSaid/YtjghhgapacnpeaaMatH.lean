/-
  Orders.
-/
import Derived.Test.YtjghhgapacnpeaaMatH0
namespace Go.Proofs.Ytjghhgapacnpeaa
open Go.RowKit Go.Maps
attribute [local irreducible] World.setCell

set_option linter.unusedSimpArgs false
set_option linter.unusedVariables false

set_option maxHeartbeats 3200000 in
set_option maxRecDepth 100000 in
theorem ord_p3 (m : Mt) (d : Int) (w : World) (hc : chkM m = 0) (hd : dM m = d) (dd : d = 1 ∨ d = -1) (ht : wrap64 (d * wrap64 (wrap64 (m.p00 + m.p11) + m.p22)) = 3) (hneg : 0 < d) (hp : powB m 1 = true) (hl : ∀ k, k < 1 → 0 < k → powB m k = false):
    Calls Try.prog 16 #[.agg #[.int .i64 m.p00, .int .i64 m.p01, .int .i64 m.p02, .int .i64 m.p10, .int .i64 m.p11, .int .i64 m.p12, .int .i64 m.p20, .int .i64 m.p21, .int .i64 m.p22]] w fun e w' => e = .returned (.tuple #[.int .i64 1, .int .i64 0]) ∧ Below w.heap.size w w' := by
  have U := fun w => unit_0 m.p00 m.p01 m.p02 m.p10 m.p11 m.p12 m.p20 m.p21 m.p22 d w hc hd dd
  have P1 := fun w => power_k m 1 1 _ rfl (by omega) hp w
  have sg1 : decide (d < 0) = false := decide_eq_false (by omega)
  have HU := Lib.hid U; have HP1 := Lib.hid P1; clear U hp hl hc hd dd hneg P1
  have HT := Lib.hid ht; clear ht
  have hmm := @run_makeMap Try.prog
  go_enter Try.func16, Try.ntmps16
  go_wp2_with fail
  refine (HU.out _).mono ?_
  rintro e w1 ⟨rfl, hb1⟩
  obtain ⟨hc1, hf1⟩ := bcell hb1
  have hz1 := hb1.size
  try simp at hz1
  have z1_0 : w.heap.size < w1.heap.size := by omega
  obtain ⟨v1, v2, v3, v4, v5, r1, r2, r3, r4, r5, hown, hgrow⟩ := five_runs w1
  have rl := look5_run hown (3) (1) (by decide) at3 has3
  have ht := HT.out
  have hbm : Below w1.heap.size w1 v5 := ((Below.refl _ _).alloc (Nat.le_refl _) _).grown hgrow (by simp) (fun j hj => by cases hj; exact Nat.le_refl _)
  obtain ⟨hcm, hfm⟩ := bcell hbm
  have hzm := hbm.size
  have zm0 : w.heap.size < v5.heap.size := by omega
  clear hown hgrow
  go_wp2_with fail
  refine (HP1.out _).mono ?_
  rintro e w11 ⟨rfl, hb11⟩
  obtain ⟨hc11, hf11⟩ := bcell hb11
  have hz11 := hb11.size
  try simp at hz11
  have z11_0 : w.heap.size < w11.heap.size := by omega
  go_wp2
  refine wp_loop_rounds 1 ?_
  rw [rounds_succ]
  go_wp2
  refine bodyPost_ret (v := .tuple #[.int .i64 1, .int .i64 0]) (by simp [results, Try.results16, go_sem, wrap_add_l, wrap_add_r, wrap_sub_l, wrap_sub_r, wrap_mul_l, wrap_mul_r, wrap_neg, wrap_wrap, wrap3, *]) rfl ⟨rfl, ?_⟩
  repeat (first | exact Below.refl _ _ | assumption | exact Below.alloc (Below.refl _ _) (Nat.le_refl _) _ | refine Below.setCell ?_ (by first | (simp; done) | (simp; omega) | omega) _ | refine below_drewN ?_ _ | refine Below.alloc ?_ (by first | (simp; done) | (simp; omega) | omega) _ | refine Below.trans ?_ (Below.mono (by assumption) (by first | (simp; done) | (simp; omega) | omega)))

set_option maxHeartbeats 3200000 in
set_option maxRecDepth 100000 in
theorem ord_p2 (m : Mt) (d : Int) (w : World) (hc : chkM m = 0) (hd : dM m = d) (dd : d = 1 ∨ d = -1) (ht : wrap64 (d * wrap64 (wrap64 (m.p00 + m.p11) + m.p22)) = 2) (hneg : 0 < d) (hp : powB m 6 = true) (hl : ∀ k, k < 6 → 0 < k → powB m k = false):
    Calls Try.prog 16 #[.agg #[.int .i64 m.p00, .int .i64 m.p01, .int .i64 m.p02, .int .i64 m.p10, .int .i64 m.p11, .int .i64 m.p12, .int .i64 m.p20, .int .i64 m.p21, .int .i64 m.p22]] w fun e w' => e = .returned (.tuple #[.int .i64 6, .int .i64 0]) ∧ Below w.heap.size w w' := by
  have U := fun w => unit_0 m.p00 m.p01 m.p02 m.p10 m.p11 m.p12 m.p20 m.p21 m.p22 d w hc hd dd
  have P6 := fun w => power_k m 6 6 _ rfl (by omega) hp w
  have P1 := fun w => power_k m 1 1 _ rfl (by omega) (hl 1 (by omega) (by omega)) w
  have P2 := fun w => power_k m 2 2 _ rfl (by omega) (hl 2 (by omega) (by omega)) w
  have P3 := fun w => power_k m 3 3 _ rfl (by omega) (hl 3 (by omega) (by omega)) w
  have sg1 : decide (d < 0) = false := decide_eq_false (by omega)
  have HU := Lib.hid U; have HP1 := Lib.hid P1; have HP2 := Lib.hid P2; have HP3 := Lib.hid P3; have HP6 := Lib.hid P6; clear U hp hl hc hd dd hneg P1 P2 P3 P6
  have HT := Lib.hid ht; clear ht
  have hmm := @run_makeMap Try.prog
  go_enter Try.func16, Try.ntmps16
  go_wp2_with fail
  refine (HU.out _).mono ?_
  rintro e w1 ⟨rfl, hb1⟩
  obtain ⟨hc1, hf1⟩ := bcell hb1
  have hz1 := hb1.size
  try simp at hz1
  have z1_0 : w.heap.size < w1.heap.size := by omega
  obtain ⟨v1, v2, v3, v4, v5, r1, r2, r3, r4, r5, hown, hgrow⟩ := five_runs w1
  have rl := look5_run hown (2) (6) (by decide) at2 has2
  have ht := HT.out
  have hbm : Below w1.heap.size w1 v5 := ((Below.refl _ _).alloc (Nat.le_refl _) _).grown hgrow (by simp) (fun j hj => by cases hj; exact Nat.le_refl _)
  obtain ⟨hcm, hfm⟩ := bcell hbm
  have hzm := hbm.size
  have zm0 : w.heap.size < v5.heap.size := by omega
  clear hown hgrow
  go_wp2_with fail
  refine (HP6.out _).mono ?_
  rintro e w11 ⟨rfl, hb11⟩
  obtain ⟨hc11, hf11⟩ := bcell hb11
  have hz11 := hb11.size
  try simp at hz11
  have z11_0 : w.heap.size < w11.heap.size := by omega
  go_wp2
  refine wp_loop_rounds 6 ?_
  rw [rounds_succ]
  go_wp2_with fail
  refine (HP1.out _).mono ?_
  rintro e w12 ⟨rfl, hb12⟩
  obtain ⟨hc12, hf12⟩ := bcell hb12
  have hz12 := hb12.size
  try simp at hz12
  have z12_0 : w.heap.size < w12.heap.size := by omega
  go_wp2
  rw [rounds_succ]
  go_wp2_with fail
  refine (HP2.out _).mono ?_
  rintro e w13 ⟨rfl, hb13⟩
  obtain ⟨hc13, hf13⟩ := bcell hb13
  have hz13 := hb13.size
  try simp at hz13
  have z13_0 : w.heap.size < w13.heap.size := by omega
  go_wp2
  rw [rounds_succ]
  go_wp2_with fail
  refine (HP3.out _).mono ?_
  rintro e w14 ⟨rfl, hb14⟩
  obtain ⟨hc14, hf14⟩ := bcell hb14
  have hz14 := hb14.size
  try simp at hz14
  have z14_0 : w.heap.size < w14.heap.size := by omega
  go_wp2
  rw [rounds_succ]
  go_wp2
  rw [rounds_succ]
  go_wp2
  rw [rounds_succ]
  go_wp2
  refine bodyPost_ret (v := .tuple #[.int .i64 6, .int .i64 0]) (by simp [results, Try.results16, go_sem, wrap_add_l, wrap_add_r, wrap_sub_l, wrap_sub_r, wrap_mul_l, wrap_mul_r, wrap_neg, wrap_wrap, wrap3, *]) rfl ⟨rfl, ?_⟩
  repeat (first | exact Below.refl _ _ | assumption | exact Below.alloc (Below.refl _ _) (Nat.le_refl _) _ | refine Below.setCell ?_ (by first | (simp; done) | (simp; omega) | omega) _ | refine below_drewN ?_ _ | refine Below.alloc ?_ (by first | (simp; done) | (simp; omega) | omega) _ | refine Below.trans ?_ (Below.mono (by assumption) (by first | (simp; done) | (simp; omega) | omega)))

set_option maxHeartbeats 3200000 in
set_option maxRecDepth 100000 in
theorem ord_p1 (m : Mt) (d : Int) (w : World) (hc : chkM m = 0) (hd : dM m = d) (dd : d = 1 ∨ d = -1) (ht : wrap64 (d * wrap64 (wrap64 (m.p00 + m.p11) + m.p22)) = 1) (hneg : 0 < d) (hp : powB m 4 = true) (hl : ∀ k, k < 4 → 0 < k → powB m k = false):
    Calls Try.prog 16 #[.agg #[.int .i64 m.p00, .int .i64 m.p01, .int .i64 m.p02, .int .i64 m.p10, .int .i64 m.p11, .int .i64 m.p12, .int .i64 m.p20, .int .i64 m.p21, .int .i64 m.p22]] w fun e w' => e = .returned (.tuple #[.int .i64 4, .int .i64 0]) ∧ Below w.heap.size w w' := by
  have U := fun w => unit_0 m.p00 m.p01 m.p02 m.p10 m.p11 m.p12 m.p20 m.p21 m.p22 d w hc hd dd
  have P4 := fun w => power_k m 4 4 _ rfl (by omega) hp w
  have P1 := fun w => power_k m 1 1 _ rfl (by omega) (hl 1 (by omega) (by omega)) w
  have P2 := fun w => power_k m 2 2 _ rfl (by omega) (hl 2 (by omega) (by omega)) w
  have sg1 : decide (d < 0) = false := decide_eq_false (by omega)
  have HU := Lib.hid U; have HP1 := Lib.hid P1; have HP2 := Lib.hid P2; have HP4 := Lib.hid P4; clear U hp hl hc hd dd hneg P1 P2 P4
  have HT := Lib.hid ht; clear ht
  have hmm := @run_makeMap Try.prog
  go_enter Try.func16, Try.ntmps16
  go_wp2_with fail
  refine (HU.out _).mono ?_
  rintro e w1 ⟨rfl, hb1⟩
  obtain ⟨hc1, hf1⟩ := bcell hb1
  have hz1 := hb1.size
  try simp at hz1
  have z1_0 : w.heap.size < w1.heap.size := by omega
  obtain ⟨v1, v2, v3, v4, v5, r1, r2, r3, r4, r5, hown, hgrow⟩ := five_runs w1
  have rl := look5_run hown (1) (4) (by decide) at1 has1
  have ht := HT.out
  have hbm : Below w1.heap.size w1 v5 := ((Below.refl _ _).alloc (Nat.le_refl _) _).grown hgrow (by simp) (fun j hj => by cases hj; exact Nat.le_refl _)
  obtain ⟨hcm, hfm⟩ := bcell hbm
  have hzm := hbm.size
  have zm0 : w.heap.size < v5.heap.size := by omega
  clear hown hgrow
  go_wp2_with fail
  refine (HP4.out _).mono ?_
  rintro e w11 ⟨rfl, hb11⟩
  obtain ⟨hc11, hf11⟩ := bcell hb11
  have hz11 := hb11.size
  try simp at hz11
  have z11_0 : w.heap.size < w11.heap.size := by omega
  go_wp2
  refine wp_loop_rounds 4 ?_
  rw [rounds_succ]
  go_wp2_with fail
  refine (HP1.out _).mono ?_
  rintro e w12 ⟨rfl, hb12⟩
  obtain ⟨hc12, hf12⟩ := bcell hb12
  have hz12 := hb12.size
  try simp at hz12
  have z12_0 : w.heap.size < w12.heap.size := by omega
  go_wp2
  rw [rounds_succ]
  go_wp2_with fail
  refine (HP2.out _).mono ?_
  rintro e w13 ⟨rfl, hb13⟩
  obtain ⟨hc13, hf13⟩ := bcell hb13
  have hz13 := hb13.size
  try simp at hz13
  have z13_0 : w.heap.size < w13.heap.size := by omega
  go_wp2
  rw [rounds_succ]
  go_wp2
  rw [rounds_succ]
  go_wp2
  refine bodyPost_ret (v := .tuple #[.int .i64 4, .int .i64 0]) (by simp [results, Try.results16, go_sem, wrap_add_l, wrap_add_r, wrap_sub_l, wrap_sub_r, wrap_mul_l, wrap_mul_r, wrap_neg, wrap_wrap, wrap3, *]) rfl ⟨rfl, ?_⟩
  repeat (first | exact Below.refl _ _ | assumption | exact Below.alloc (Below.refl _ _) (Nat.le_refl _) _ | refine Below.setCell ?_ (by first | (simp; done) | (simp; omega) | omega) _ | refine below_drewN ?_ _ | refine Below.alloc ?_ (by first | (simp; done) | (simp; omega) | omega) _ | refine Below.trans ?_ (Below.mono (by assumption) (by first | (simp; done) | (simp; omega) | omega)))

set_option maxHeartbeats 3200000 in
set_option maxRecDepth 100000 in
theorem ord_p0 (m : Mt) (d : Int) (w : World) (hc : chkM m = 0) (hd : dM m = d) (dd : d = 1 ∨ d = -1) (ht : wrap64 (d * wrap64 (wrap64 (m.p00 + m.p11) + m.p22)) = 0) (hneg : 0 < d) (hp : powB m 3 = true) (hl : ∀ k, k < 3 → 0 < k → powB m k = false):
    Calls Try.prog 16 #[.agg #[.int .i64 m.p00, .int .i64 m.p01, .int .i64 m.p02, .int .i64 m.p10, .int .i64 m.p11, .int .i64 m.p12, .int .i64 m.p20, .int .i64 m.p21, .int .i64 m.p22]] w fun e w' => e = .returned (.tuple #[.int .i64 3, .int .i64 0]) ∧ Below w.heap.size w w' := by
  have U := fun w => unit_0 m.p00 m.p01 m.p02 m.p10 m.p11 m.p12 m.p20 m.p21 m.p22 d w hc hd dd
  have P3 := fun w => power_k m 3 3 _ rfl (by omega) hp w
  have P1 := fun w => power_k m 1 1 _ rfl (by omega) (hl 1 (by omega) (by omega)) w
  have sg1 : decide (d < 0) = false := decide_eq_false (by omega)
  have HU := Lib.hid U; have HP1 := Lib.hid P1; have HP3 := Lib.hid P3; clear U hp hl hc hd dd hneg P1 P3
  have HT := Lib.hid ht; clear ht
  have hmm := @run_makeMap Try.prog
  go_enter Try.func16, Try.ntmps16
  go_wp2_with fail
  refine (HU.out _).mono ?_
  rintro e w1 ⟨rfl, hb1⟩
  obtain ⟨hc1, hf1⟩ := bcell hb1
  have hz1 := hb1.size
  try simp at hz1
  have z1_0 : w.heap.size < w1.heap.size := by omega
  obtain ⟨v1, v2, v3, v4, v5, r1, r2, r3, r4, r5, hown, hgrow⟩ := five_runs w1
  have rl := look5_run hown (0) (3) (by decide) at0 has0
  have ht := HT.out
  have hbm : Below w1.heap.size w1 v5 := ((Below.refl _ _).alloc (Nat.le_refl _) _).grown hgrow (by simp) (fun j hj => by cases hj; exact Nat.le_refl _)
  obtain ⟨hcm, hfm⟩ := bcell hbm
  have hzm := hbm.size
  have zm0 : w.heap.size < v5.heap.size := by omega
  clear hown hgrow
  go_wp2_with fail
  refine (HP3.out _).mono ?_
  rintro e w11 ⟨rfl, hb11⟩
  obtain ⟨hc11, hf11⟩ := bcell hb11
  have hz11 := hb11.size
  try simp at hz11
  have z11_0 : w.heap.size < w11.heap.size := by omega
  go_wp2
  refine wp_loop_rounds 3 ?_
  rw [rounds_succ]
  go_wp2_with fail
  refine (HP1.out _).mono ?_
  rintro e w12 ⟨rfl, hb12⟩
  obtain ⟨hc12, hf12⟩ := bcell hb12
  have hz12 := hb12.size
  try simp at hz12
  have z12_0 : w.heap.size < w12.heap.size := by omega
  go_wp2
  rw [rounds_succ]
  go_wp2
  rw [rounds_succ]
  go_wp2
  refine bodyPost_ret (v := .tuple #[.int .i64 3, .int .i64 0]) (by simp [results, Try.results16, go_sem, wrap_add_l, wrap_add_r, wrap_sub_l, wrap_sub_r, wrap_mul_l, wrap_mul_r, wrap_neg, wrap_wrap, wrap3, *]) rfl ⟨rfl, ?_⟩
  repeat (first | exact Below.refl _ _ | assumption | exact Below.alloc (Below.refl _ _) (Nat.le_refl _) _ | refine Below.setCell ?_ (by first | (simp; done) | (simp; omega) | omega) _ | refine below_drewN ?_ _ | refine Below.alloc ?_ (by first | (simp; done) | (simp; omega) | omega) _ | refine Below.trans ?_ (Below.mono (by assumption) (by first | (simp; done) | (simp; omega) | omega)))

set_option maxHeartbeats 3200000 in
set_option maxRecDepth 100000 in
theorem ord_pm (m : Mt) (d : Int) (w : World) (hc : chkM m = 0) (hd : dM m = d) (dd : d = 1 ∨ d = -1) (ht : wrap64 (d * wrap64 (wrap64 (m.p00 + m.p11) + m.p22)) = -1) (hneg : 0 < d) (hp : powB m 2 = true) (hl : ∀ k, k < 2 → 0 < k → powB m k = false):
    Calls Try.prog 16 #[.agg #[.int .i64 m.p00, .int .i64 m.p01, .int .i64 m.p02, .int .i64 m.p10, .int .i64 m.p11, .int .i64 m.p12, .int .i64 m.p20, .int .i64 m.p21, .int .i64 m.p22]] w fun e w' => e = .returned (.tuple #[.int .i64 2, .int .i64 0]) ∧ Below w.heap.size w w' := by
  have U := fun w => unit_0 m.p00 m.p01 m.p02 m.p10 m.p11 m.p12 m.p20 m.p21 m.p22 d w hc hd dd
  have P2 := fun w => power_k m 2 2 _ rfl (by omega) hp w
  have P1 := fun w => power_k m 1 1 _ rfl (by omega) (hl 1 (by omega) (by omega)) w
  have sg1 : decide (d < 0) = false := decide_eq_false (by omega)
  have HU := Lib.hid U; have HP1 := Lib.hid P1; have HP2 := Lib.hid P2; clear U hp hl hc hd dd hneg P1 P2
  have HT := Lib.hid ht; clear ht
  have hmm := @run_makeMap Try.prog
  go_enter Try.func16, Try.ntmps16
  go_wp2_with fail
  refine (HU.out _).mono ?_
  rintro e w1 ⟨rfl, hb1⟩
  obtain ⟨hc1, hf1⟩ := bcell hb1
  have hz1 := hb1.size
  try simp at hz1
  have z1_0 : w.heap.size < w1.heap.size := by omega
  obtain ⟨v1, v2, v3, v4, v5, r1, r2, r3, r4, r5, hown, hgrow⟩ := five_runs w1
  have rl := look5_run hown (-1) (2) (by decide) atm hasm
  have ht := HT.out
  have hbm : Below w1.heap.size w1 v5 := ((Below.refl _ _).alloc (Nat.le_refl _) _).grown hgrow (by simp) (fun j hj => by cases hj; exact Nat.le_refl _)
  obtain ⟨hcm, hfm⟩ := bcell hbm
  have hzm := hbm.size
  have zm0 : w.heap.size < v5.heap.size := by omega
  clear hown hgrow
  go_wp2_with fail
  refine (HP2.out _).mono ?_
  rintro e w11 ⟨rfl, hb11⟩
  obtain ⟨hc11, hf11⟩ := bcell hb11
  have hz11 := hb11.size
  try simp at hz11
  have z11_0 : w.heap.size < w11.heap.size := by omega
  go_wp2
  refine wp_loop_rounds 2 ?_
  rw [rounds_succ]
  go_wp2_with fail
  refine (HP1.out _).mono ?_
  rintro e w12 ⟨rfl, hb12⟩
  obtain ⟨hc12, hf12⟩ := bcell hb12
  have hz12 := hb12.size
  try simp at hz12
  have z12_0 : w.heap.size < w12.heap.size := by omega
  go_wp2
  rw [rounds_succ]
  go_wp2
  refine bodyPost_ret (v := .tuple #[.int .i64 2, .int .i64 0]) (by simp [results, Try.results16, go_sem, wrap_add_l, wrap_add_r, wrap_sub_l, wrap_sub_r, wrap_mul_l, wrap_mul_r, wrap_neg, wrap_wrap, wrap3, *]) rfl ⟨rfl, ?_⟩
  repeat (first | exact Below.refl _ _ | assumption | exact Below.alloc (Below.refl _ _) (Nat.le_refl _) _ | refine Below.setCell ?_ (by first | (simp; done) | (simp; omega) | omega) _ | refine below_drewN ?_ _ | refine Below.alloc ?_ (by first | (simp; done) | (simp; omega) | omega) _ | refine Below.trans ?_ (Below.mono (by assumption) (by first | (simp; done) | (simp; omega) | omega)))

set_option maxHeartbeats 3200000 in
set_option maxRecDepth 100000 in
theorem ord_n3 (m : Mt) (d : Int) (w : World) (hc : chkM m = 0) (hd : dM m = d) (dd : d = 1 ∨ d = -1) (ht : wrap64 (d * wrap64 (wrap64 (m.p00 + m.p11) + m.p22)) = 3) (hneg : d < 0) (hp : powB m 2 = true) (hl : ∀ k, k < 2 → 0 < k → powB m k = false):
    Calls Try.prog 16 #[.agg #[.int .i64 m.p00, .int .i64 m.p01, .int .i64 m.p02, .int .i64 m.p10, .int .i64 m.p11, .int .i64 m.p12, .int .i64 m.p20, .int .i64 m.p21, .int .i64 m.p22]] w fun e w' => e = .returned (.tuple #[.int .i64 2, .int .i64 0]) ∧ Below w.heap.size w w' := by
  have U := fun w => unit_0 m.p00 m.p01 m.p02 m.p10 m.p11 m.p12 m.p20 m.p21 m.p22 d w hc hd dd
  have P2 := fun w => power_k m 2 2 _ rfl (by omega) hp w
  have P1 := fun w => power_k m 1 1 _ rfl (by omega) (hl 1 (by omega) (by omega)) w
  have sg1 : decide (d < 0) = true := decide_eq_true (by omega)
  have HU := Lib.hid U; have HP1 := Lib.hid P1; have HP2 := Lib.hid P2; clear U hp hl hc hd dd hneg P1 P2
  have HT := Lib.hid ht; clear ht
  have hmm := @run_makeMap Try.prog
  go_enter Try.func16, Try.ntmps16
  go_wp2_with fail
  refine (HU.out _).mono ?_
  rintro e w1 ⟨rfl, hb1⟩
  obtain ⟨hc1, hf1⟩ := bcell hb1
  have hz1 := hb1.size
  try simp at hz1
  have z1_0 : w.heap.size < w1.heap.size := by omega
  obtain ⟨v1, v2, v3, v4, v5, r1, r2, r3, r4, r5, hown, hgrow⟩ := five_runs w1
  have rl := look5_run hown (3) (1) (by decide) at3 has3
  have ht := HT.out
  have hbm : Below w1.heap.size w1 v5 := ((Below.refl _ _).alloc (Nat.le_refl _) _).grown hgrow (by simp) (fun j hj => by cases hj; exact Nat.le_refl _)
  obtain ⟨hcm, hfm⟩ := bcell hbm
  have hzm := hbm.size
  have zm0 : w.heap.size < v5.heap.size := by omega
  clear hown hgrow
  go_wp2_with fail
  refine (HP2.out _).mono ?_
  rintro e w11 ⟨rfl, hb11⟩
  obtain ⟨hc11, hf11⟩ := bcell hb11
  have hz11 := hb11.size
  try simp at hz11
  have z11_0 : w.heap.size < w11.heap.size := by omega
  go_wp2
  refine wp_loop_rounds 2 ?_
  rw [rounds_succ]
  go_wp2_with fail
  refine (HP1.out _).mono ?_
  rintro e w12 ⟨rfl, hb12⟩
  obtain ⟨hc12, hf12⟩ := bcell hb12
  have hz12 := hb12.size
  try simp at hz12
  have z12_0 : w.heap.size < w12.heap.size := by omega
  go_wp2
  rw [rounds_succ]
  go_wp2
  refine bodyPost_ret (v := .tuple #[.int .i64 2, .int .i64 0]) (by simp [results, Try.results16, go_sem, wrap_add_l, wrap_add_r, wrap_sub_l, wrap_sub_r, wrap_mul_l, wrap_mul_r, wrap_neg, wrap_wrap, wrap3, *]) rfl ⟨rfl, ?_⟩
  repeat (first | exact Below.refl _ _ | assumption | exact Below.alloc (Below.refl _ _) (Nat.le_refl _) _ | refine Below.setCell ?_ (by first | (simp; done) | (simp; omega) | omega) _ | refine below_drewN ?_ _ | refine Below.alloc ?_ (by first | (simp; done) | (simp; omega) | omega) _ | refine Below.trans ?_ (Below.mono (by assumption) (by first | (simp; done) | (simp; omega) | omega)))

set_option maxHeartbeats 3200000 in
set_option maxRecDepth 100000 in
theorem ord_n2 (m : Mt) (d : Int) (w : World) (hc : chkM m = 0) (hd : dM m = d) (dd : d = 1 ∨ d = -1) (ht : wrap64 (d * wrap64 (wrap64 (m.p00 + m.p11) + m.p22)) = 2) (hneg : d < 0) (hp : powB m 6 = true) (hl : ∀ k, k < 6 → 0 < k → powB m k = false):
    Calls Try.prog 16 #[.agg #[.int .i64 m.p00, .int .i64 m.p01, .int .i64 m.p02, .int .i64 m.p10, .int .i64 m.p11, .int .i64 m.p12, .int .i64 m.p20, .int .i64 m.p21, .int .i64 m.p22]] w fun e w' => e = .returned (.tuple #[.int .i64 6, .int .i64 0]) ∧ Below w.heap.size w w' := by
  have U := fun w => unit_0 m.p00 m.p01 m.p02 m.p10 m.p11 m.p12 m.p20 m.p21 m.p22 d w hc hd dd
  have P6 := fun w => power_k m 6 6 _ rfl (by omega) hp w
  have P1 := fun w => power_k m 1 1 _ rfl (by omega) (hl 1 (by omega) (by omega)) w
  have P2 := fun w => power_k m 2 2 _ rfl (by omega) (hl 2 (by omega) (by omega)) w
  have P3 := fun w => power_k m 3 3 _ rfl (by omega) (hl 3 (by omega) (by omega)) w
  have sg1 : decide (d < 0) = true := decide_eq_true (by omega)
  have HU := Lib.hid U; have HP1 := Lib.hid P1; have HP2 := Lib.hid P2; have HP3 := Lib.hid P3; have HP6 := Lib.hid P6; clear U hp hl hc hd dd hneg P1 P2 P3 P6
  have HT := Lib.hid ht; clear ht
  have hmm := @run_makeMap Try.prog
  go_enter Try.func16, Try.ntmps16
  go_wp2_with fail
  refine (HU.out _).mono ?_
  rintro e w1 ⟨rfl, hb1⟩
  obtain ⟨hc1, hf1⟩ := bcell hb1
  have hz1 := hb1.size
  try simp at hz1
  have z1_0 : w.heap.size < w1.heap.size := by omega
  obtain ⟨v1, v2, v3, v4, v5, r1, r2, r3, r4, r5, hown, hgrow⟩ := five_runs w1
  have rl := look5_run hown (2) (6) (by decide) at2 has2
  have ht := HT.out
  have hbm : Below w1.heap.size w1 v5 := ((Below.refl _ _).alloc (Nat.le_refl _) _).grown hgrow (by simp) (fun j hj => by cases hj; exact Nat.le_refl _)
  obtain ⟨hcm, hfm⟩ := bcell hbm
  have hzm := hbm.size
  have zm0 : w.heap.size < v5.heap.size := by omega
  clear hown hgrow
  go_wp2_with fail
  refine (HP6.out _).mono ?_
  rintro e w11 ⟨rfl, hb11⟩
  obtain ⟨hc11, hf11⟩ := bcell hb11
  have hz11 := hb11.size
  try simp at hz11
  have z11_0 : w.heap.size < w11.heap.size := by omega
  go_wp2
  refine wp_loop_rounds 6 ?_
  rw [rounds_succ]
  go_wp2_with fail
  refine (HP1.out _).mono ?_
  rintro e w12 ⟨rfl, hb12⟩
  obtain ⟨hc12, hf12⟩ := bcell hb12
  have hz12 := hb12.size
  try simp at hz12
  have z12_0 : w.heap.size < w12.heap.size := by omega
  go_wp2
  rw [rounds_succ]
  go_wp2_with fail
  refine (HP2.out _).mono ?_
  rintro e w13 ⟨rfl, hb13⟩
  obtain ⟨hc13, hf13⟩ := bcell hb13
  have hz13 := hb13.size
  try simp at hz13
  have z13_0 : w.heap.size < w13.heap.size := by omega
  go_wp2
  rw [rounds_succ]
  go_wp2_with fail
  refine (HP3.out _).mono ?_
  rintro e w14 ⟨rfl, hb14⟩
  obtain ⟨hc14, hf14⟩ := bcell hb14
  have hz14 := hb14.size
  try simp at hz14
  have z14_0 : w.heap.size < w14.heap.size := by omega
  go_wp2
  rw [rounds_succ]
  go_wp2
  rw [rounds_succ]
  go_wp2
  rw [rounds_succ]
  go_wp2
  refine bodyPost_ret (v := .tuple #[.int .i64 6, .int .i64 0]) (by simp [results, Try.results16, go_sem, wrap_add_l, wrap_add_r, wrap_sub_l, wrap_sub_r, wrap_mul_l, wrap_mul_r, wrap_neg, wrap_wrap, wrap3, *]) rfl ⟨rfl, ?_⟩
  repeat (first | exact Below.refl _ _ | assumption | exact Below.alloc (Below.refl _ _) (Nat.le_refl _) _ | refine Below.setCell ?_ (by first | (simp; done) | (simp; omega) | omega) _ | refine below_drewN ?_ _ | refine Below.alloc ?_ (by first | (simp; done) | (simp; omega) | omega) _ | refine Below.trans ?_ (Below.mono (by assumption) (by first | (simp; done) | (simp; omega) | omega)))

set_option maxHeartbeats 3200000 in
set_option maxRecDepth 100000 in
theorem ord_n1 (m : Mt) (d : Int) (w : World) (hc : chkM m = 0) (hd : dM m = d) (dd : d = 1 ∨ d = -1) (ht : wrap64 (d * wrap64 (wrap64 (m.p00 + m.p11) + m.p22)) = 1) (hneg : d < 0) (hp : powB m 4 = true) (hl : ∀ k, k < 4 → 0 < k → powB m k = false):
    Calls Try.prog 16 #[.agg #[.int .i64 m.p00, .int .i64 m.p01, .int .i64 m.p02, .int .i64 m.p10, .int .i64 m.p11, .int .i64 m.p12, .int .i64 m.p20, .int .i64 m.p21, .int .i64 m.p22]] w fun e w' => e = .returned (.tuple #[.int .i64 4, .int .i64 0]) ∧ Below w.heap.size w w' := by
  have U := fun w => unit_0 m.p00 m.p01 m.p02 m.p10 m.p11 m.p12 m.p20 m.p21 m.p22 d w hc hd dd
  have P4 := fun w => power_k m 4 4 _ rfl (by omega) hp w
  have P1 := fun w => power_k m 1 1 _ rfl (by omega) (hl 1 (by omega) (by omega)) w
  have P2 := fun w => power_k m 2 2 _ rfl (by omega) (hl 2 (by omega) (by omega)) w
  have sg1 : decide (d < 0) = true := decide_eq_true (by omega)
  have HU := Lib.hid U; have HP1 := Lib.hid P1; have HP2 := Lib.hid P2; have HP4 := Lib.hid P4; clear U hp hl hc hd dd hneg P1 P2 P4
  have HT := Lib.hid ht; clear ht
  have hmm := @run_makeMap Try.prog
  go_enter Try.func16, Try.ntmps16
  go_wp2_with fail
  refine (HU.out _).mono ?_
  rintro e w1 ⟨rfl, hb1⟩
  obtain ⟨hc1, hf1⟩ := bcell hb1
  have hz1 := hb1.size
  try simp at hz1
  have z1_0 : w.heap.size < w1.heap.size := by omega
  obtain ⟨v1, v2, v3, v4, v5, r1, r2, r3, r4, r5, hown, hgrow⟩ := five_runs w1
  have rl := look5_run hown (1) (4) (by decide) at1 has1
  have ht := HT.out
  have hbm : Below w1.heap.size w1 v5 := ((Below.refl _ _).alloc (Nat.le_refl _) _).grown hgrow (by simp) (fun j hj => by cases hj; exact Nat.le_refl _)
  obtain ⟨hcm, hfm⟩ := bcell hbm
  have hzm := hbm.size
  have zm0 : w.heap.size < v5.heap.size := by omega
  clear hown hgrow
  go_wp2_with fail
  refine (HP4.out _).mono ?_
  rintro e w11 ⟨rfl, hb11⟩
  obtain ⟨hc11, hf11⟩ := bcell hb11
  have hz11 := hb11.size
  try simp at hz11
  have z11_0 : w.heap.size < w11.heap.size := by omega
  go_wp2
  refine wp_loop_rounds 4 ?_
  rw [rounds_succ]
  go_wp2_with fail
  refine (HP1.out _).mono ?_
  rintro e w12 ⟨rfl, hb12⟩
  obtain ⟨hc12, hf12⟩ := bcell hb12
  have hz12 := hb12.size
  try simp at hz12
  have z12_0 : w.heap.size < w12.heap.size := by omega
  go_wp2
  rw [rounds_succ]
  go_wp2_with fail
  refine (HP2.out _).mono ?_
  rintro e w13 ⟨rfl, hb13⟩
  obtain ⟨hc13, hf13⟩ := bcell hb13
  have hz13 := hb13.size
  try simp at hz13
  have z13_0 : w.heap.size < w13.heap.size := by omega
  go_wp2
  rw [rounds_succ]
  go_wp2
  rw [rounds_succ]
  go_wp2
  refine bodyPost_ret (v := .tuple #[.int .i64 4, .int .i64 0]) (by simp [results, Try.results16, go_sem, wrap_add_l, wrap_add_r, wrap_sub_l, wrap_sub_r, wrap_mul_l, wrap_mul_r, wrap_neg, wrap_wrap, wrap3, *]) rfl ⟨rfl, ?_⟩
  repeat (first | exact Below.refl _ _ | assumption | exact Below.alloc (Below.refl _ _) (Nat.le_refl _) _ | refine Below.setCell ?_ (by first | (simp; done) | (simp; omega) | omega) _ | refine below_drewN ?_ _ | refine Below.alloc ?_ (by first | (simp; done) | (simp; omega) | omega) _ | refine Below.trans ?_ (Below.mono (by assumption) (by first | (simp; done) | (simp; omega) | omega)))

set_option maxHeartbeats 3200000 in
set_option maxRecDepth 100000 in
theorem ord_n0 (m : Mt) (d : Int) (w : World) (hc : chkM m = 0) (hd : dM m = d) (dd : d = 1 ∨ d = -1) (ht : wrap64 (d * wrap64 (wrap64 (m.p00 + m.p11) + m.p22)) = 0) (hneg : d < 0) (hp : powB m 6 = true) (hl : ∀ k, k < 6 → 0 < k → powB m k = false):
    Calls Try.prog 16 #[.agg #[.int .i64 m.p00, .int .i64 m.p01, .int .i64 m.p02, .int .i64 m.p10, .int .i64 m.p11, .int .i64 m.p12, .int .i64 m.p20, .int .i64 m.p21, .int .i64 m.p22]] w fun e w' => e = .returned (.tuple #[.int .i64 6, .int .i64 0]) ∧ Below w.heap.size w w' := by
  have U := fun w => unit_0 m.p00 m.p01 m.p02 m.p10 m.p11 m.p12 m.p20 m.p21 m.p22 d w hc hd dd
  have P6 := fun w => power_k m 6 6 _ rfl (by omega) hp w
  have P1 := fun w => power_k m 1 1 _ rfl (by omega) (hl 1 (by omega) (by omega)) w
  have P2 := fun w => power_k m 2 2 _ rfl (by omega) (hl 2 (by omega) (by omega)) w
  have P3 := fun w => power_k m 3 3 _ rfl (by omega) (hl 3 (by omega) (by omega)) w
  have sg1 : decide (d < 0) = true := decide_eq_true (by omega)
  have HU := Lib.hid U; have HP1 := Lib.hid P1; have HP2 := Lib.hid P2; have HP3 := Lib.hid P3; have HP6 := Lib.hid P6; clear U hp hl hc hd dd hneg P1 P2 P3 P6
  have HT := Lib.hid ht; clear ht
  have hmm := @run_makeMap Try.prog
  go_enter Try.func16, Try.ntmps16
  go_wp2_with fail
  refine (HU.out _).mono ?_
  rintro e w1 ⟨rfl, hb1⟩
  obtain ⟨hc1, hf1⟩ := bcell hb1
  have hz1 := hb1.size
  try simp at hz1
  have z1_0 : w.heap.size < w1.heap.size := by omega
  obtain ⟨v1, v2, v3, v4, v5, r1, r2, r3, r4, r5, hown, hgrow⟩ := five_runs w1
  have rl := look5_run hown (0) (3) (by decide) at0 has0
  have ht := HT.out
  have hbm : Below w1.heap.size w1 v5 := ((Below.refl _ _).alloc (Nat.le_refl _) _).grown hgrow (by simp) (fun j hj => by cases hj; exact Nat.le_refl _)
  obtain ⟨hcm, hfm⟩ := bcell hbm
  have hzm := hbm.size
  have zm0 : w.heap.size < v5.heap.size := by omega
  clear hown hgrow
  go_wp2_with fail
  refine (HP6.out _).mono ?_
  rintro e w11 ⟨rfl, hb11⟩
  obtain ⟨hc11, hf11⟩ := bcell hb11
  have hz11 := hb11.size
  try simp at hz11
  have z11_0 : w.heap.size < w11.heap.size := by omega
  go_wp2
  refine wp_loop_rounds 6 ?_
  rw [rounds_succ]
  go_wp2_with fail
  refine (HP1.out _).mono ?_
  rintro e w12 ⟨rfl, hb12⟩
  obtain ⟨hc12, hf12⟩ := bcell hb12
  have hz12 := hb12.size
  try simp at hz12
  have z12_0 : w.heap.size < w12.heap.size := by omega
  go_wp2
  rw [rounds_succ]
  go_wp2_with fail
  refine (HP2.out _).mono ?_
  rintro e w13 ⟨rfl, hb13⟩
  obtain ⟨hc13, hf13⟩ := bcell hb13
  have hz13 := hb13.size
  try simp at hz13
  have z13_0 : w.heap.size < w13.heap.size := by omega
  go_wp2
  rw [rounds_succ]
  go_wp2_with fail
  refine (HP3.out _).mono ?_
  rintro e w14 ⟨rfl, hb14⟩
  obtain ⟨hc14, hf14⟩ := bcell hb14
  have hz14 := hb14.size
  try simp at hz14
  have z14_0 : w.heap.size < w14.heap.size := by omega
  go_wp2
  rw [rounds_succ]
  go_wp2
  rw [rounds_succ]
  go_wp2
  rw [rounds_succ]
  go_wp2
  refine bodyPost_ret (v := .tuple #[.int .i64 6, .int .i64 0]) (by simp [results, Try.results16, go_sem, wrap_add_l, wrap_add_r, wrap_sub_l, wrap_sub_r, wrap_mul_l, wrap_mul_r, wrap_neg, wrap_wrap, wrap3, *]) rfl ⟨rfl, ?_⟩
  repeat (first | exact Below.refl _ _ | assumption | exact Below.alloc (Below.refl _ _) (Nat.le_refl _) _ | refine Below.setCell ?_ (by first | (simp; done) | (simp; omega) | omega) _ | refine below_drewN ?_ _ | refine Below.alloc ?_ (by first | (simp; done) | (simp; omega) | omega) _ | refine Below.trans ?_ (Below.mono (by assumption) (by first | (simp; done) | (simp; omega) | omega)))

set_option maxHeartbeats 3200000 in
set_option maxRecDepth 100000 in
theorem ord_nm (m : Mt) (d : Int) (w : World) (hc : chkM m = 0) (hd : dM m = d) (dd : d = 1 ∨ d = -1) (ht : wrap64 (d * wrap64 (wrap64 (m.p00 + m.p11) + m.p22)) = -1) (hneg : d < 0) (hp : powB m 2 = true) (hl : ∀ k, k < 2 → 0 < k → powB m k = false):
    Calls Try.prog 16 #[.agg #[.int .i64 m.p00, .int .i64 m.p01, .int .i64 m.p02, .int .i64 m.p10, .int .i64 m.p11, .int .i64 m.p12, .int .i64 m.p20, .int .i64 m.p21, .int .i64 m.p22]] w fun e w' => e = .returned (.tuple #[.int .i64 2, .int .i64 0]) ∧ Below w.heap.size w w' := by
  have U := fun w => unit_0 m.p00 m.p01 m.p02 m.p10 m.p11 m.p12 m.p20 m.p21 m.p22 d w hc hd dd
  have P2 := fun w => power_k m 2 2 _ rfl (by omega) hp w
  have P1 := fun w => power_k m 1 1 _ rfl (by omega) (hl 1 (by omega) (by omega)) w
  have sg1 : decide (d < 0) = true := decide_eq_true (by omega)
  have HU := Lib.hid U; have HP1 := Lib.hid P1; have HP2 := Lib.hid P2; clear U hp hl hc hd dd hneg P1 P2
  have HT := Lib.hid ht; clear ht
  have hmm := @run_makeMap Try.prog
  go_enter Try.func16, Try.ntmps16
  go_wp2_with fail
  refine (HU.out _).mono ?_
  rintro e w1 ⟨rfl, hb1⟩
  obtain ⟨hc1, hf1⟩ := bcell hb1
  have hz1 := hb1.size
  try simp at hz1
  have z1_0 : w.heap.size < w1.heap.size := by omega
  obtain ⟨v1, v2, v3, v4, v5, r1, r2, r3, r4, r5, hown, hgrow⟩ := five_runs w1
  have rl := look5_run hown (-1) (2) (by decide) atm hasm
  have ht := HT.out
  have hbm : Below w1.heap.size w1 v5 := ((Below.refl _ _).alloc (Nat.le_refl _) _).grown hgrow (by simp) (fun j hj => by cases hj; exact Nat.le_refl _)
  obtain ⟨hcm, hfm⟩ := bcell hbm
  have hzm := hbm.size
  have zm0 : w.heap.size < v5.heap.size := by omega
  clear hown hgrow
  go_wp2_with fail
  refine (HP2.out _).mono ?_
  rintro e w11 ⟨rfl, hb11⟩
  obtain ⟨hc11, hf11⟩ := bcell hb11
  have hz11 := hb11.size
  try simp at hz11
  have z11_0 : w.heap.size < w11.heap.size := by omega
  go_wp2
  refine wp_loop_rounds 2 ?_
  rw [rounds_succ]
  go_wp2_with fail
  refine (HP1.out _).mono ?_
  rintro e w12 ⟨rfl, hb12⟩
  obtain ⟨hc12, hf12⟩ := bcell hb12
  have hz12 := hb12.size
  try simp at hz12
  have z12_0 : w.heap.size < w12.heap.size := by omega
  go_wp2
  rw [rounds_succ]
  go_wp2
  refine bodyPost_ret (v := .tuple #[.int .i64 2, .int .i64 0]) (by simp [results, Try.results16, go_sem, wrap_add_l, wrap_add_r, wrap_sub_l, wrap_sub_r, wrap_mul_l, wrap_mul_r, wrap_neg, wrap_wrap, wrap3, *]) rfl ⟨rfl, ?_⟩
  repeat (first | exact Below.refl _ _ | assumption | exact Below.alloc (Below.refl _ _) (Nat.le_refl _) _ | refine Below.setCell ?_ (by first | (simp; done) | (simp; omega) | omega) _ | refine below_drewN ?_ _ | refine Below.alloc ?_ (by first | (simp; done) | (simp; omega) | omega) _ | refine Below.trans ?_ (Below.mono (by assumption) (by first | (simp; done) | (simp; omega) | omega)))

theorem Order_good {g : Mt} (h : Good g) (w : World) : Calls Try.prog 16 #[.agg #[.int .i64 g.p00, .int .i64 g.p01, .int .i64 g.p02, .int .i64 g.p10, .int .i64 g.p11, .int .i64 g.p12, .int .i64 g.p20, .int .i64 g.p21, .int .i64 g.p22]] w fun e w' => e = .returned (.tuple #[.int .i64 (ordN g), .int .i64 0]) ∧ Below w.heap.size w w' := by
  have hl := h.low
  have hp := h.pow
  have htt := h.t
  have hd := h.d
  have hc := h.c
  rcases hd with hd | hd
  all_goals rcases htt with ht | ht | ht | ht | ht
  · have e : ordN g = 1 := by unfold ordN; rw [ht, hd]; decide
    rw [e] at hl hp ⊢
    exact ord_p3 g (dM g) w hc rfl h.d ht (by omega) hp hl
  · have e : ordN g = 6 := by unfold ordN; rw [ht, hd]; decide
    rw [e] at hl hp ⊢
    exact ord_p2 g (dM g) w hc rfl h.d ht (by omega) hp hl
  · have e : ordN g = 4 := by unfold ordN; rw [ht, hd]; decide
    rw [e] at hl hp ⊢
    exact ord_p1 g (dM g) w hc rfl h.d ht (by omega) hp hl
  · have e : ordN g = 3 := by unfold ordN; rw [ht, hd]; decide
    rw [e] at hl hp ⊢
    exact ord_p0 g (dM g) w hc rfl h.d ht (by omega) hp hl
  · have e : ordN g = 2 := by unfold ordN; rw [ht, hd]; decide
    rw [e] at hl hp ⊢
    exact ord_pm g (dM g) w hc rfl h.d ht (by omega) hp hl
  · have e : ordN g = 2 := by unfold ordN; rw [ht, hd]; decide
    rw [e] at hl hp ⊢
    exact ord_n3 g (dM g) w hc rfl h.d ht (by omega) hp hl
  · have e : ordN g = 6 := by unfold ordN; rw [ht, hd]; decide
    rw [e] at hl hp ⊢
    exact ord_n2 g (dM g) w hc rfl h.d ht (by omega) hp hl
  · have e : ordN g = 4 := by unfold ordN; rw [ht, hd]; decide
    rw [e] at hl hp ⊢
    exact ord_n1 g (dM g) w hc rfl h.d ht (by omega) hp hl
  · have e : ordN g = 6 := by unfold ordN; rw [ht, hd]; decide
    rw [e] at hl hp ⊢
    exact ord_n0 g (dM g) w hc rfl h.d ht (by omega) hp hl
  · have e : ordN g = 2 := by unfold ordN; rw [ht, hd]; decide
    rw [e] at hl hp ⊢
    exact ord_nm g (dM g) w hc rfl h.d ht (by omega) hp hl
def shr : Mt := ⟨1, 1, 0, 0, 1, 0, 0, 0, 1⟩
theorem shr_c : chkM shr = 0 := by decide +kernel
theorem shr_d : dM shr = 1 := by decide +kernel
theorem shr_p : powB shr 1 = false := by decide +kernel
set_option maxHeartbeats 1600000 in
set_option maxRecDepth 100000 in
theorem Order_shear  (w : World) :
    Calls Try.prog 16 #[.agg #[.int .i64 1, .int .i64 1, .int .i64 0, .int .i64 0, .int .i64 1, .int .i64 0, .int .i64 0, .int .i64 0, .int .i64 1]] w fun e w' => e = .returned (.tuple #[.int .i64 0, .int .i64 9]) ∧ Below w.heap.size w w' := by
  have U : ∀ w, Calls Try.prog 29 #[.agg #[.int .i64 1, .int .i64 1, .int .i64 0, .int .i64 0, .int .i64 1, .int .i64 0, .int .i64 0, .int .i64 0, .int .i64 1]] w fun e w' => e = .returned (.tuple #[.int .i64 1, .int .i64 0]) ∧ Below w.heap.size w w' := fun w => unit_0 shr.p00 shr.p01 shr.p02 shr.p10 shr.p11 shr.p12 shr.p20 shr.p21 shr.p22 1 w shr_c shr_d (Or.inl rfl)
  have P1 : ∀ w, Calls Try.prog 30 #[.agg #[.int .i64 1, .int .i64 1, .int .i64 0, .int .i64 0, .int .i64 1, .int .i64 0, .int .i64 0, .int .i64 0, .int .i64 1], .int .i64 1] w fun e w' => e = .returned (.bool false) ∧ Below w.heap.size w w' := fun w => power_k shr 1 1 _ rfl (by omega) shr_p w
  have HU := Lib.hid U; have HP1 := Lib.hid P1; clear U P1
  have hmm := @run_makeMap Try.prog
  go_enter Try.func16, Try.ntmps16
  go_wp2_with fail
  refine (HU.out _).mono ?_
  rintro e w1 ⟨rfl, hb1⟩
  obtain ⟨hc1, hf1⟩ := bcell hb1
  have hz1 := hb1.size
  try simp at hz1
  have z1_0 : w.heap.size < w1.heap.size := by omega
  obtain ⟨v1, v2, v3, v4, v5, r1, r2, r3, r4, r5, hown, hgrow⟩ := five_runs w1
  have rl := look5_run hown (3) (1) (by decide) at3 has3
  have hbm : Below w1.heap.size w1 v5 := ((Below.refl _ _).alloc (Nat.le_refl _) _).grown hgrow (by simp) (fun j hj => by cases hj; exact Nat.le_refl _)
  obtain ⟨hcm, hfm⟩ := bcell hbm
  have hzm := hbm.size
  have zm0 : w.heap.size < v5.heap.size := by omega
  clear hown hgrow
  have hw3 : wrap64 3 = 3 := by decide +kernel
  have hw2 : wrap64 2 = 2 := by decide +kernel
  go_wp2_with fail
  refine (HP1.out _).mono ?_
  rintro e w11 ⟨rfl, hb11⟩
  obtain ⟨hc11, hf11⟩ := bcell hb11
  have hz11 := hb11.size
  try simp at hz11
  have z11_0 : w.heap.size < w11.heap.size := by omega
  go_wp2
  refine bodyPost_ret (v := .tuple #[.int .i64 0, .int .i64 9]) (by simp [results, Try.results16, go_sem, wrap_add_l, wrap_add_r, wrap_sub_l, wrap_sub_r, wrap_mul_l, wrap_mul_r, wrap_neg, wrap_wrap, wrap3, *]) rfl ⟨rfl, ?_⟩
  repeat (first | exact Below.refl _ _ | assumption | exact Below.alloc (Below.refl _ _) (Nat.le_refl _) _ | refine Below.setCell ?_ (by first | (simp; done) | (simp; omega) | omega) _ | refine below_drewN ?_ _ | refine Below.alloc ?_ (by first | (simp; done) | (simp; omega) | omega) _ | refine Below.trans ?_ (Below.mono (by assumption) (by first | (simp; done) | (simp; omega) | omega)))

end Go.Proofs.Ytjghhgapacnpeaa
