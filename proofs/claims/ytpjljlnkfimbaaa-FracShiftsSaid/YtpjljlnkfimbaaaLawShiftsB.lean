/-
  The law FracShifts, walked, the rest: it returns true.
-/
import Derived.Test.YtpjljlnkfimbaaaLawShiftsA
namespace Go.Proofs.Ytpjljlnkfimbaaa
open Go.RowKit
attribute [local irreducible] World.setCell

set_option maxHeartbeats 6400000 in
set_option maxRecDepth 100000 in
theorem shifts_d (m x y z k a0 a1 a2 b0 b1 b2 : Int) (w : World) (h : formB m x y z = true) (hk : rightB k = true) (hd : k % m ≠ 0):
    Calls Try.prog 6 #[.agg #[.int .i64 m, .int .i64 x, .int .i64 y, .int .i64 z], .agg #[.int .i64 a0, .int .i64 a1, .int .i64 a2], .agg #[.int .i64 b0, .int .i64 b1, .int .i64 b2], .int .i64 k] w fun e w' => e = .returned (.bool true) ∧ Below w.heap.size w w' := by
  have H := Lib.hid h; have HR := Lib.hid (formB_right h)
  obtain ⟨_, hx, hy, hz⟩ := formB_t h
  have EX := Lib.hid (And.intro hx (And.intro hy hz)); clear hx hy hz
  have HS := Lib.hid (sh_form h (x + ((a0 + b0) % 24) * (m / 24)) (y + ((a1 + b1) % 24) * (m / 24)) (z + ((a2 + b2) % 24) * (m / 24)))
  have HY := Lib.hid (sh_form h (x + a0 * (m / 24)) (y + a1 * (m / 24)) (z + a2 * (m / 24)))
  have H24 := Lib.hid (m24 (formB_right h))
  have K := Lib.hid hk; have D := Lib.hid hd; clear hk hd h
  go_enter Try.func6, Try.ntmps6
  go_wp2_with fail
  refine (awake_any _).mono ?_
  rintro e w1 ⟨rfl, hb1⟩
  obtain ⟨hc1, hf1⟩ := bcell hb1
  have hz1 := hb1.size
  try simp at hz1
  have z1_0 : w.heap.size < w1.heap.size := by omega
  have z1_1 : w.heap.size + 1 < w1.heap.size := by omega
  have z1_2 : w.heap.size + 1 + 1 < w1.heap.size := by omega
  go_wp2_with fail
  refine (to_v (by rw [H.out]) (form_any _ _ _ _ _)).mono ?_
  rintro e w2 ⟨rfl, hb2⟩
  obtain ⟨hc2, hf2⟩ := bcell hb2
  have hz2 := hb2.size
  try simp at hz2
  have z2_0 : w.heap.size < w2.heap.size := by omega
  have z2_1 : w.heap.size + 1 < w2.heap.size := by omega
  have z2_2 : w.heap.size + 1 + 1 < w2.heap.size := by omega
  go_wp2
  go_region_held3 (fun w' => w'.cell? ⟨w.heap.size, 0, none⟩ = some (.int .i64 m) ∧ w'.cell? ⟨w.heap.size, 1, none⟩ = some (.int .i64 x) ∧ w'.cell? ⟨w.heap.size, 2, none⟩ = some (.int .i64 y) ∧ w'.cell? ⟨w.heap.size, 3, none⟩ = some (.int .i64 z) ∧ w'.cell? ⟨w.heap.size + 1, 0, none⟩ = some (.int .i64 a0) ∧ w'.cell? ⟨w.heap.size + 1, 1, none⟩ = some (.int .i64 a1) ∧ w'.cell? ⟨w.heap.size + 1, 2, none⟩ = some (.int .i64 a2) ∧ w'.cell? ⟨w.heap.size + 1 + 1, 0, none⟩ = some (.int .i64 b0) ∧ w'.cell? ⟨w.heap.size + 1 + 1, 1, none⟩ = some (.int .i64 b1) ∧ w'.cell? ⟨w.heap.size + 1 + 1, 2, none⟩ = some (.int .i64 b2)) ((go_split_ands; (repeat' apply And.intro) <;> (repeat' (first | assumption | refine keep_alloc ?_ | refine keep_set ?_ ?_ | (dsimp only; omega) | omega | (go_simp; done))))) (first | (go_at_call 17; refine (add_any _ _ _ _ _ _ _).mono ?_; rintro e wA ⟨rfl, hbwA⟩; obtain ⟨hcwA, hfwA⟩ := bcell hbwA; have hzwA := hbwA.size; (try simp at hzwA); (try have zwA_0 : w.heap.size < wA.heap.size := (by omega)); (try have zwA_1 : w.heap.size + 1 < wA.heap.size := (by omega)); (try have zwA_2 : w.heap.size + 1 + 1 < wA.heap.size := (by omega)); (try have zwA_3 : w2.heap.size < wA.heap.size := (by omega)); (try have zwA_4 : wS.heap.size < wA.heap.size := (by omega)); have fwA0 : wA.cell? ⟨w.heap.size, 0, none⟩ = some (.int .i64 m) := (hcwA _ _ (by first | omega | (simp; omega))).trans (by first | assumption | (go_simp; done)); have fwA1 : wA.cell? ⟨w.heap.size, 1, none⟩ = some (.int .i64 x) := (hcwA _ _ (by first | omega | (simp; omega))).trans (by first | assumption | (go_simp; done)); have fwA2 : wA.cell? ⟨w.heap.size, 2, none⟩ = some (.int .i64 y) := (hcwA _ _ (by first | omega | (simp; omega))).trans (by first | assumption | (go_simp; done)); have fwA3 : wA.cell? ⟨w.heap.size, 3, none⟩ = some (.int .i64 z) := (hcwA _ _ (by first | omega | (simp; omega))).trans (by first | assumption | (go_simp; done)); have fwA4 : wA.cell? ⟨w.heap.size + 1, 0, none⟩ = some (.int .i64 a0) := (hcwA _ _ (by first | omega | (simp; omega))).trans (by first | assumption | (go_simp; done)); have fwA5 : wA.cell? ⟨w.heap.size + 1, 1, none⟩ = some (.int .i64 a1) := (hcwA _ _ (by first | omega | (simp; omega))).trans (by first | assumption | (go_simp; done)); have fwA6 : wA.cell? ⟨w.heap.size + 1, 2, none⟩ = some (.int .i64 a2) := (hcwA _ _ (by first | omega | (simp; omega))).trans (by first | assumption | (go_simp; done)); have fwA7 : wA.cell? ⟨w.heap.size + 1 + 1, 0, none⟩ = some (.int .i64 b0) := (hcwA _ _ (by first | omega | (simp; omega))).trans (by first | assumption | (go_simp; done)); have fwA8 : wA.cell? ⟨w.heap.size + 1 + 1, 1, none⟩ = some (.int .i64 b1) := (hcwA _ _ (by first | omega | (simp; omega))).trans (by first | assumption | (go_simp; done)); have fwA9 : wA.cell? ⟨w.heap.size + 1 + 1, 2, none⟩ = some (.int .i64 b2) := (hcwA _ _ (by first | omega | (simp; omega))).trans (by first | assumption | (go_simp; done))) | (go_at_call 25; refine (shift_t _ _ _ _ _ _ _ _ H.out).mono ?_; rintro e wS ⟨rfl, hbwS⟩; obtain ⟨hcwS, hfwS⟩ := bcell hbwS; have hzwS := hbwS.size; (try simp at hzwS); (try have zwS_0 : w.heap.size < wS.heap.size := (by omega)); (try have zwS_1 : w.heap.size + 1 < wS.heap.size := (by omega)); (try have zwS_2 : w.heap.size + 1 + 1 < wS.heap.size := (by omega)); (try have zwS_3 : w2.heap.size < wS.heap.size := (by omega)); (try have zwS_4 : wA.heap.size < wS.heap.size := (by omega)); have fwS0 : wS.cell? ⟨w.heap.size, 0, none⟩ = some (.int .i64 m) := (hcwS _ _ (by first | omega | (simp; omega))).trans (by first | assumption | (go_simp; done)); have fwS1 : wS.cell? ⟨w.heap.size, 1, none⟩ = some (.int .i64 x) := (hcwS _ _ (by first | omega | (simp; omega))).trans (by first | assumption | (go_simp; done)); have fwS2 : wS.cell? ⟨w.heap.size, 2, none⟩ = some (.int .i64 y) := (hcwS _ _ (by first | omega | (simp; omega))).trans (by first | assumption | (go_simp; done)); have fwS3 : wS.cell? ⟨w.heap.size, 3, none⟩ = some (.int .i64 z) := (hcwS _ _ (by first | omega | (simp; omega))).trans (by first | assumption | (go_simp; done)); have fwS4 : wS.cell? ⟨w.heap.size + 1, 0, none⟩ = some (.int .i64 a0) := (hcwS _ _ (by first | omega | (simp; omega))).trans (by first | assumption | (go_simp; done)); have fwS5 : wS.cell? ⟨w.heap.size + 1, 1, none⟩ = some (.int .i64 a1) := (hcwS _ _ (by first | omega | (simp; omega))).trans (by first | assumption | (go_simp; done)); have fwS6 : wS.cell? ⟨w.heap.size + 1, 2, none⟩ = some (.int .i64 a2) := (hcwS _ _ (by first | omega | (simp; omega))).trans (by first | assumption | (go_simp; done)); have fwS7 : wS.cell? ⟨w.heap.size + 1 + 1, 0, none⟩ = some (.int .i64 b0) := (hcwS _ _ (by first | omega | (simp; omega))).trans (by first | assumption | (go_simp; done)); have fwS8 : wS.cell? ⟨w.heap.size + 1 + 1, 1, none⟩ = some (.int .i64 b1) := (hcwS _ _ (by first | omega | (simp; omega))).trans (by first | assumption | (go_simp; done)); have fwS9 : wS.cell? ⟨w.heap.size + 1 + 1, 2, none⟩ = some (.int .i64 b2) := (hcwS _ _ (by first | omega | (simp; omega))).trans (by first | assumption | (go_simp; done))))
  · simp only [Exit.then]
    go_wp2_with fail
    refine (shift_t _ _ _ _ _ _ _ _ H.out).mono ?_
    rintro e w4 ⟨rfl, hb4⟩
    obtain ⟨hc4, hf4⟩ := bcell hb4
    have hz4 := hb4.size
    try simp at hz4
    have z4_0 : w.heap.size < w4.heap.size := by omega
    have z4_1 : w.heap.size + 1 < w4.heap.size := by omega
    have z4_2 : w.heap.size + 1 + 1 < w4.heap.size := by omega
    have z4_3 : wS.heap.size < w4.heap.size := by omega
    go_wp2_with fail
    refine (to_v (pt_v (sh_sum HR.out x a0 b0).symm (sh_sum HR.out y a1 b1).symm (sh_sum HR.out z a2 b2).symm) (shift_t _ _ _ _ _ _ _ _ HY.out)).mono ?_
    rintro e w5 ⟨rfl, hb5⟩
    obtain ⟨hc5, hf5⟩ := bcell hb5
    have hz5 := hb5.size
    try simp at hz5
    have z5_0 : w.heap.size < w5.heap.size := by omega
    have z5_1 : w.heap.size + 1 < w5.heap.size := by omega
    have z5_2 : w.heap.size + 1 + 1 < w5.heap.size := by omega
    have z5_3 : wS.heap.size < w5.heap.size := by omega
    have z5_4 : w4.heap.size < w5.heap.size := by omega
    go_wp2_with fail
    refine (to_v (pt_v (sh_diff HR.out x a0 b0 EX.out.1.1 EX.out.1.2) (sh_diff HR.out y a1 b1 EX.out.2.1.1 EX.out.2.1.2) (sh_diff HR.out z a2 b2 EX.out.2.2.1 EX.out.2.2.2)) (minus_t _ _ _ _ _ _ _ _ HS.out H.out)).mono ?_
    rintro e w6 ⟨rfl, hb6⟩
    obtain ⟨hc6, hf6⟩ := bcell hb6
    have hz6 := hb6.size
    try simp at hz6
    have z6_0 : w.heap.size < w6.heap.size := by omega
    have z6_1 : w.heap.size + 1 < w6.heap.size := by omega
    have z6_2 : w.heap.size + 1 + 1 < w6.heap.size := by omega
    have z6_3 : wS.heap.size < w6.heap.size := by omega
    have z6_4 : w4.heap.size < w6.heap.size := by omega
    go_wp2_with fail
    refine (add_any _ _ _ _ _ _ _).mono ?_
    rintro e w7 ⟨rfl, hb7⟩
    obtain ⟨hc7, hf7⟩ := bcell hb7
    have hz7 := hb7.size
    try simp at hz7
    have z7_0 : w.heap.size < w7.heap.size := by omega
    have z7_1 : w.heap.size + 1 < w7.heap.size := by omega
    have z7_2 : w.heap.size + 1 + 1 < w7.heap.size := by omega
    have z7_3 : wS.heap.size < w7.heap.size := by omega
    have z7_4 : w4.heap.size < w7.heap.size := by omega
    have z7_5 : w6.heap.size < w7.heap.size := by omega
    go_wp2_with fail
    refine (place_t _ _ _ _ _ (by rfl)).mono ?_
    rintro e w8 ⟨rfl, hb8⟩
    obtain ⟨hc8, hf8⟩ := bcell hb8
    have hz8 := hb8.size
    try simp at hz8
    have z8_0 : w.heap.size < w8.heap.size := by omega
    have z8_1 : w.heap.size + 1 < w8.heap.size := by omega
    have z8_2 : w.heap.size + 1 + 1 < w8.heap.size := by omega
    have z8_3 : wS.heap.size < w8.heap.size := by omega
    have z8_4 : w4.heap.size < w8.heap.size := by omega
    have z8_5 : w6.heap.size < w8.heap.size := by omega
    go_wp2_with fail
    refine (finer_t _ _ _ _ _ _ HR.out (p24 _ _ _) H24.out).mono ?_
    rintro e w9 ⟨rfl, hb9⟩
    obtain ⟨hc9, hf9⟩ := bcell hb9
    have hz9 := hb9.size
    try simp at hz9
    have z9_0 : w.heap.size < w9.heap.size := by omega
    have z9_1 : w.heap.size + 1 < w9.heap.size := by omega
    have z9_2 : w.heap.size + 1 + 1 < w9.heap.size := by omega
    have z9_3 : wS.heap.size < w9.heap.size := by omega
    have z9_4 : w4.heap.size < w9.heap.size := by omega
    have z9_5 : w6.heap.size < w9.heap.size := by omega
    have z9_6 : w8.heap.size < w9.heap.size := by omega
    go_wp2_with fail
    refine (to_v (by rw [HS.out]) (form_any _ _ _ _ _)).mono ?_
    rintro e w10 ⟨rfl, hb10⟩
    obtain ⟨hc10, hf10⟩ := bcell hb10
    have hz10 := hb10.size
    try simp at hz10
    have z10_0 : w.heap.size < w10.heap.size := by omega
    have z10_1 : w.heap.size + 1 < w10.heap.size := by omega
    have z10_2 : w.heap.size + 1 + 1 < w10.heap.size := by omega
    have z10_3 : wS.heap.size < w10.heap.size := by omega
    have z10_4 : w4.heap.size < w10.heap.size := by omega
    have z10_5 : w6.heap.size < w10.heap.size := by omega
    have z10_6 : w8.heap.size < w10.heap.size := by omega
    go_wp2_with fail
    refine (finer_d _ _ _ _ _ _ K.out H.out D.out).mono ?_
    rintro e w11 ⟨rfl, hb11⟩
    obtain ⟨hc11, hf11⟩ := bcell hb11
    have hz11 := hb11.size
    try simp at hz11
    have z11_0 : w.heap.size < w11.heap.size := by omega
    have z11_1 : w.heap.size + 1 < w11.heap.size := by omega
    have z11_2 : w.heap.size + 1 + 1 < w11.heap.size := by omega
    have z11_3 : wS.heap.size < w11.heap.size := by omega
    have z11_4 : w4.heap.size < w11.heap.size := by omega
    have z11_5 : w6.heap.size < w11.heap.size := by omega
    have z11_6 : w8.heap.size < w11.heap.size := by omega
    go_wp2
    go_ret
    refine ⟨rfl, ?_⟩
    repeat (first | exact Below.refl _ _ | assumption | exact Below.alloc (Below.refl _ _) (Nat.le_refl _) _ | refine Below.setCell ?_ (by first | (simp; done) | (simp; omega) | omega) _ | refine below_drewN ?_ _ | refine Below.alloc ?_ (by first | (simp; done) | (simp; omega) | omega) _ | refine Below.trans ?_ (Below.mono (by assumption) (by first | (simp; done) | (simp; omega) | omega)))
  · simp only [Exit.then]
    go_wp2_with fail
    refine (shift_t _ _ _ _ _ _ _ _ H.out).mono ?_
    rintro e w4 ⟨rfl, hb4⟩
    obtain ⟨hc4, hf4⟩ := bcell hb4
    have hz4 := hb4.size
    try simp at hz4
    have z4_0 : w.heap.size < w4.heap.size := by omega
    have z4_1 : w.heap.size + 1 < w4.heap.size := by omega
    have z4_2 : w.heap.size + 1 + 1 < w4.heap.size := by omega
    have z4_3 : wA.heap.size < w4.heap.size := by omega
    go_wp2_with fail
    refine (to_v (pt_v (sh_sum HR.out x a0 b0).symm (sh_sum HR.out y a1 b1).symm (sh_sum HR.out z a2 b2).symm) (shift_t _ _ _ _ _ _ _ _ HY.out)).mono ?_
    rintro e w5 ⟨rfl, hb5⟩
    obtain ⟨hc5, hf5⟩ := bcell hb5
    have hz5 := hb5.size
    try simp at hz5
    have z5_0 : w.heap.size < w5.heap.size := by omega
    have z5_1 : w.heap.size + 1 < w5.heap.size := by omega
    have z5_2 : w.heap.size + 1 + 1 < w5.heap.size := by omega
    have z5_3 : wA.heap.size < w5.heap.size := by omega
    have z5_4 : w4.heap.size < w5.heap.size := by omega
    go_wp2_with fail
    refine (to_v (pt_v (sh_diff HR.out x a0 b0 EX.out.1.1 EX.out.1.2) (sh_diff HR.out y a1 b1 EX.out.2.1.1 EX.out.2.1.2) (sh_diff HR.out z a2 b2 EX.out.2.2.1 EX.out.2.2.2)) (minus_t _ _ _ _ _ _ _ _ HS.out H.out)).mono ?_
    rintro e w6 ⟨rfl, hb6⟩
    obtain ⟨hc6, hf6⟩ := bcell hb6
    have hz6 := hb6.size
    try simp at hz6
    have z6_0 : w.heap.size < w6.heap.size := by omega
    have z6_1 : w.heap.size + 1 < w6.heap.size := by omega
    have z6_2 : w.heap.size + 1 + 1 < w6.heap.size := by omega
    have z6_3 : wA.heap.size < w6.heap.size := by omega
    have z6_4 : w4.heap.size < w6.heap.size := by omega
    go_wp2_with fail
    refine (add_any _ _ _ _ _ _ _).mono ?_
    rintro e w7 ⟨rfl, hb7⟩
    obtain ⟨hc7, hf7⟩ := bcell hb7
    have hz7 := hb7.size
    try simp at hz7
    have z7_0 : w.heap.size < w7.heap.size := by omega
    have z7_1 : w.heap.size + 1 < w7.heap.size := by omega
    have z7_2 : w.heap.size + 1 + 1 < w7.heap.size := by omega
    have z7_3 : wA.heap.size < w7.heap.size := by omega
    have z7_4 : w4.heap.size < w7.heap.size := by omega
    have z7_5 : w6.heap.size < w7.heap.size := by omega
    go_wp2_with fail
    refine (place_t _ _ _ _ _ (by rfl)).mono ?_
    rintro e w8 ⟨rfl, hb8⟩
    obtain ⟨hc8, hf8⟩ := bcell hb8
    have hz8 := hb8.size
    try simp at hz8
    have z8_0 : w.heap.size < w8.heap.size := by omega
    have z8_1 : w.heap.size + 1 < w8.heap.size := by omega
    have z8_2 : w.heap.size + 1 + 1 < w8.heap.size := by omega
    have z8_3 : wA.heap.size < w8.heap.size := by omega
    have z8_4 : w4.heap.size < w8.heap.size := by omega
    have z8_5 : w6.heap.size < w8.heap.size := by omega
    go_wp2_with fail
    refine (finer_t _ _ _ _ _ _ HR.out (p24 _ _ _) H24.out).mono ?_
    rintro e w9 ⟨rfl, hb9⟩
    obtain ⟨hc9, hf9⟩ := bcell hb9
    have hz9 := hb9.size
    try simp at hz9
    have z9_0 : w.heap.size < w9.heap.size := by omega
    have z9_1 : w.heap.size + 1 < w9.heap.size := by omega
    have z9_2 : w.heap.size + 1 + 1 < w9.heap.size := by omega
    have z9_3 : wA.heap.size < w9.heap.size := by omega
    have z9_4 : w4.heap.size < w9.heap.size := by omega
    have z9_5 : w6.heap.size < w9.heap.size := by omega
    have z9_6 : w8.heap.size < w9.heap.size := by omega
    go_wp2_with fail
    refine (to_v (by rw [HS.out]) (form_any _ _ _ _ _)).mono ?_
    rintro e w10 ⟨rfl, hb10⟩
    obtain ⟨hc10, hf10⟩ := bcell hb10
    have hz10 := hb10.size
    try simp at hz10
    have z10_0 : w.heap.size < w10.heap.size := by omega
    have z10_1 : w.heap.size + 1 < w10.heap.size := by omega
    have z10_2 : w.heap.size + 1 + 1 < w10.heap.size := by omega
    have z10_3 : wA.heap.size < w10.heap.size := by omega
    have z10_4 : w4.heap.size < w10.heap.size := by omega
    have z10_5 : w6.heap.size < w10.heap.size := by omega
    have z10_6 : w8.heap.size < w10.heap.size := by omega
    go_wp2_with fail
    refine (finer_d _ _ _ _ _ _ K.out H.out D.out).mono ?_
    rintro e w11 ⟨rfl, hb11⟩
    obtain ⟨hc11, hf11⟩ := bcell hb11
    have hz11 := hb11.size
    try simp at hz11
    have z11_0 : w.heap.size < w11.heap.size := by omega
    have z11_1 : w.heap.size + 1 < w11.heap.size := by omega
    have z11_2 : w.heap.size + 1 + 1 < w11.heap.size := by omega
    have z11_3 : wA.heap.size < w11.heap.size := by omega
    have z11_4 : w4.heap.size < w11.heap.size := by omega
    have z11_5 : w6.heap.size < w11.heap.size := by omega
    have z11_6 : w8.heap.size < w11.heap.size := by omega
    go_wp2
    go_ret
    refine ⟨rfl, ?_⟩
    repeat (first | exact Below.refl _ _ | assumption | exact Below.alloc (Below.refl _ _) (Nat.le_refl _) _ | refine Below.setCell ?_ (by first | (simp; done) | (simp; omega) | omega) _ | refine below_drewN ?_ _ | refine Below.alloc ?_ (by first | (simp; done) | (simp; omega) | omega) _ | refine Below.trans ?_ (Below.mono (by assumption) (by first | (simp; done) | (simp; omega) | omega)))
  · simp only [Exit.then]
    go_wp2_with fail
    refine (shift_t _ _ _ _ _ _ _ _ H.out).mono ?_
    rintro e w4 ⟨rfl, hb4⟩
    obtain ⟨hc4, hf4⟩ := bcell hb4
    have hz4 := hb4.size
    try simp at hz4
    have z4_0 : w.heap.size < w4.heap.size := by omega
    have z4_1 : w.heap.size + 1 < w4.heap.size := by omega
    have z4_2 : w.heap.size + 1 + 1 < w4.heap.size := by omega
    have z4_3 : w2.heap.size < w4.heap.size := by omega
    go_wp2_with fail
    refine (to_v (pt_v (sh_sum HR.out x a0 b0).symm (sh_sum HR.out y a1 b1).symm (sh_sum HR.out z a2 b2).symm) (shift_t _ _ _ _ _ _ _ _ HY.out)).mono ?_
    rintro e w5 ⟨rfl, hb5⟩
    obtain ⟨hc5, hf5⟩ := bcell hb5
    have hz5 := hb5.size
    try simp at hz5
    have z5_0 : w.heap.size < w5.heap.size := by omega
    have z5_1 : w.heap.size + 1 < w5.heap.size := by omega
    have z5_2 : w.heap.size + 1 + 1 < w5.heap.size := by omega
    have z5_3 : w2.heap.size < w5.heap.size := by omega
    have z5_4 : w4.heap.size < w5.heap.size := by omega
    go_wp2_with fail
    refine (to_v (pt_v (sh_diff HR.out x a0 b0 EX.out.1.1 EX.out.1.2) (sh_diff HR.out y a1 b1 EX.out.2.1.1 EX.out.2.1.2) (sh_diff HR.out z a2 b2 EX.out.2.2.1 EX.out.2.2.2)) (minus_t _ _ _ _ _ _ _ _ HS.out H.out)).mono ?_
    rintro e w6 ⟨rfl, hb6⟩
    obtain ⟨hc6, hf6⟩ := bcell hb6
    have hz6 := hb6.size
    try simp at hz6
    have z6_0 : w.heap.size < w6.heap.size := by omega
    have z6_1 : w.heap.size + 1 < w6.heap.size := by omega
    have z6_2 : w.heap.size + 1 + 1 < w6.heap.size := by omega
    have z6_3 : w2.heap.size < w6.heap.size := by omega
    have z6_4 : w4.heap.size < w6.heap.size := by omega
    go_wp2_with fail
    refine (add_any _ _ _ _ _ _ _).mono ?_
    rintro e w7 ⟨rfl, hb7⟩
    obtain ⟨hc7, hf7⟩ := bcell hb7
    have hz7 := hb7.size
    try simp at hz7
    have z7_0 : w.heap.size < w7.heap.size := by omega
    have z7_1 : w.heap.size + 1 < w7.heap.size := by omega
    have z7_2 : w.heap.size + 1 + 1 < w7.heap.size := by omega
    have z7_3 : w2.heap.size < w7.heap.size := by omega
    have z7_4 : w4.heap.size < w7.heap.size := by omega
    have z7_5 : w6.heap.size < w7.heap.size := by omega
    go_wp2_with fail
    refine (place_t _ _ _ _ _ (by rfl)).mono ?_
    rintro e w8 ⟨rfl, hb8⟩
    obtain ⟨hc8, hf8⟩ := bcell hb8
    have hz8 := hb8.size
    try simp at hz8
    have z8_0 : w.heap.size < w8.heap.size := by omega
    have z8_1 : w.heap.size + 1 < w8.heap.size := by omega
    have z8_2 : w.heap.size + 1 + 1 < w8.heap.size := by omega
    have z8_3 : w2.heap.size < w8.heap.size := by omega
    have z8_4 : w4.heap.size < w8.heap.size := by omega
    have z8_5 : w6.heap.size < w8.heap.size := by omega
    go_wp2_with fail
    refine (finer_t _ _ _ _ _ _ HR.out (p24 _ _ _) H24.out).mono ?_
    rintro e w9 ⟨rfl, hb9⟩
    obtain ⟨hc9, hf9⟩ := bcell hb9
    have hz9 := hb9.size
    try simp at hz9
    have z9_0 : w.heap.size < w9.heap.size := by omega
    have z9_1 : w.heap.size + 1 < w9.heap.size := by omega
    have z9_2 : w.heap.size + 1 + 1 < w9.heap.size := by omega
    have z9_3 : w2.heap.size < w9.heap.size := by omega
    have z9_4 : w4.heap.size < w9.heap.size := by omega
    have z9_5 : w6.heap.size < w9.heap.size := by omega
    have z9_6 : w8.heap.size < w9.heap.size := by omega
    go_wp2_with fail
    refine (to_v (by rw [HS.out]) (form_any _ _ _ _ _)).mono ?_
    rintro e w10 ⟨rfl, hb10⟩
    obtain ⟨hc10, hf10⟩ := bcell hb10
    have hz10 := hb10.size
    try simp at hz10
    have z10_0 : w.heap.size < w10.heap.size := by omega
    have z10_1 : w.heap.size + 1 < w10.heap.size := by omega
    have z10_2 : w.heap.size + 1 + 1 < w10.heap.size := by omega
    have z10_3 : w2.heap.size < w10.heap.size := by omega
    have z10_4 : w4.heap.size < w10.heap.size := by omega
    have z10_5 : w6.heap.size < w10.heap.size := by omega
    have z10_6 : w8.heap.size < w10.heap.size := by omega
    go_wp2_with fail
    refine (finer_d _ _ _ _ _ _ K.out H.out D.out).mono ?_
    rintro e w11 ⟨rfl, hb11⟩
    obtain ⟨hc11, hf11⟩ := bcell hb11
    have hz11 := hb11.size
    try simp at hz11
    have z11_0 : w.heap.size < w11.heap.size := by omega
    have z11_1 : w.heap.size + 1 < w11.heap.size := by omega
    have z11_2 : w.heap.size + 1 + 1 < w11.heap.size := by omega
    have z11_3 : w2.heap.size < w11.heap.size := by omega
    have z11_4 : w4.heap.size < w11.heap.size := by omega
    have z11_5 : w6.heap.size < w11.heap.size := by omega
    have z11_6 : w8.heap.size < w11.heap.size := by omega
    go_wp2
    go_ret
    refine ⟨rfl, ?_⟩
    repeat (first | exact Below.refl _ _ | assumption | exact Below.alloc (Below.refl _ _) (Nat.le_refl _) _ | refine Below.setCell ?_ (by first | (simp; done) | (simp; omega) | omega) _ | refine below_drewN ?_ _ | refine Below.alloc ?_ (by first | (simp; done) | (simp; omega) | omega) _ | refine Below.trans ?_ (Below.mono (by assumption) (by first | (simp; done) | (simp; omega) | omega)))

set_option maxHeartbeats 6400000 in
set_option maxRecDepth 100000 in
theorem shifts_t (m x y z k a0 a1 a2 b0 b1 b2 : Int) (w : World) (h : formB m x y z = true) (hk : rightB k = true) (hd : k % m = 0):
    Calls Try.prog 6 #[.agg #[.int .i64 m, .int .i64 x, .int .i64 y, .int .i64 z], .agg #[.int .i64 a0, .int .i64 a1, .int .i64 a2], .agg #[.int .i64 b0, .int .i64 b1, .int .i64 b2], .int .i64 k] w fun e w' => e = .returned (.bool true) ∧ Below w.heap.size w w' := by
  have H := Lib.hid h; have HR := Lib.hid (formB_right h)
  obtain ⟨_, hx, hy, hz⟩ := formB_t h
  have EX := Lib.hid (And.intro hx (And.intro hy hz)); clear hx hy hz
  have HS := Lib.hid (sh_form h (x + ((a0 + b0) % 24) * (m / 24)) (y + ((a1 + b1) % 24) * (m / 24)) (z + ((a2 + b2) % 24) * (m / 24)))
  have HY := Lib.hid (sh_form h (x + a0 * (m / 24)) (y + a1 * (m / 24)) (z + a2 * (m / 24)))
  have H24 := Lib.hid (m24 (formB_right h))
  have K := Lib.hid hk; have D := Lib.hid hd; have FI := Lib.hid (fi_form h hk hd)
  have LZ := Lib.hid ((lexC_zero (x * (k / m) * (192 / k)) (y * (k / m) * (192 / k)) (z * (k / m) * (192 / k)) (x * (192 / m)) (y * (192 / m)) (z * (192 / m))).2 ⟨sh_lex (formB_right h) hk hd x, sh_lex (formB_right h) hk hd y, sh_lex (formB_right h) hk hd z⟩)
  clear hk hd h
  go_enter Try.func6, Try.ntmps6
  go_wp2_with fail
  refine (awake_any _).mono ?_
  rintro e w1 ⟨rfl, hb1⟩
  obtain ⟨hc1, hf1⟩ := bcell hb1
  have hz1 := hb1.size
  try simp at hz1
  have z1_0 : w.heap.size < w1.heap.size := by omega
  have z1_1 : w.heap.size + 1 < w1.heap.size := by omega
  have z1_2 : w.heap.size + 1 + 1 < w1.heap.size := by omega
  go_wp2_with fail
  refine (to_v (by rw [H.out]) (form_any _ _ _ _ _)).mono ?_
  rintro e w2 ⟨rfl, hb2⟩
  obtain ⟨hc2, hf2⟩ := bcell hb2
  have hz2 := hb2.size
  try simp at hz2
  have z2_0 : w.heap.size < w2.heap.size := by omega
  have z2_1 : w.heap.size + 1 < w2.heap.size := by omega
  have z2_2 : w.heap.size + 1 + 1 < w2.heap.size := by omega
  go_wp2
  go_region_held3 (fun w' => w'.cell? ⟨w.heap.size, 0, none⟩ = some (.int .i64 m) ∧ w'.cell? ⟨w.heap.size, 1, none⟩ = some (.int .i64 x) ∧ w'.cell? ⟨w.heap.size, 2, none⟩ = some (.int .i64 y) ∧ w'.cell? ⟨w.heap.size, 3, none⟩ = some (.int .i64 z) ∧ w'.cell? ⟨w.heap.size + 1, 0, none⟩ = some (.int .i64 a0) ∧ w'.cell? ⟨w.heap.size + 1, 1, none⟩ = some (.int .i64 a1) ∧ w'.cell? ⟨w.heap.size + 1, 2, none⟩ = some (.int .i64 a2) ∧ w'.cell? ⟨w.heap.size + 1 + 1, 0, none⟩ = some (.int .i64 b0) ∧ w'.cell? ⟨w.heap.size + 1 + 1, 1, none⟩ = some (.int .i64 b1) ∧ w'.cell? ⟨w.heap.size + 1 + 1, 2, none⟩ = some (.int .i64 b2)) ((go_split_ands; (repeat' apply And.intro) <;> (repeat' (first | assumption | refine keep_alloc ?_ | refine keep_set ?_ ?_ | (dsimp only; omega) | omega | (go_simp; done))))) (first | (go_at_call 17; refine (add_any _ _ _ _ _ _ _).mono ?_; rintro e wA ⟨rfl, hbwA⟩; obtain ⟨hcwA, hfwA⟩ := bcell hbwA; have hzwA := hbwA.size; (try simp at hzwA); (try have zwA_0 : w.heap.size < wA.heap.size := (by omega)); (try have zwA_1 : w.heap.size + 1 < wA.heap.size := (by omega)); (try have zwA_2 : w.heap.size + 1 + 1 < wA.heap.size := (by omega)); (try have zwA_3 : w2.heap.size < wA.heap.size := (by omega)); (try have zwA_4 : wS.heap.size < wA.heap.size := (by omega)); have fwA0 : wA.cell? ⟨w.heap.size, 0, none⟩ = some (.int .i64 m) := (hcwA _ _ (by first | omega | (simp; omega))).trans (by first | assumption | (go_simp; done)); have fwA1 : wA.cell? ⟨w.heap.size, 1, none⟩ = some (.int .i64 x) := (hcwA _ _ (by first | omega | (simp; omega))).trans (by first | assumption | (go_simp; done)); have fwA2 : wA.cell? ⟨w.heap.size, 2, none⟩ = some (.int .i64 y) := (hcwA _ _ (by first | omega | (simp; omega))).trans (by first | assumption | (go_simp; done)); have fwA3 : wA.cell? ⟨w.heap.size, 3, none⟩ = some (.int .i64 z) := (hcwA _ _ (by first | omega | (simp; omega))).trans (by first | assumption | (go_simp; done)); have fwA4 : wA.cell? ⟨w.heap.size + 1, 0, none⟩ = some (.int .i64 a0) := (hcwA _ _ (by first | omega | (simp; omega))).trans (by first | assumption | (go_simp; done)); have fwA5 : wA.cell? ⟨w.heap.size + 1, 1, none⟩ = some (.int .i64 a1) := (hcwA _ _ (by first | omega | (simp; omega))).trans (by first | assumption | (go_simp; done)); have fwA6 : wA.cell? ⟨w.heap.size + 1, 2, none⟩ = some (.int .i64 a2) := (hcwA _ _ (by first | omega | (simp; omega))).trans (by first | assumption | (go_simp; done)); have fwA7 : wA.cell? ⟨w.heap.size + 1 + 1, 0, none⟩ = some (.int .i64 b0) := (hcwA _ _ (by first | omega | (simp; omega))).trans (by first | assumption | (go_simp; done)); have fwA8 : wA.cell? ⟨w.heap.size + 1 + 1, 1, none⟩ = some (.int .i64 b1) := (hcwA _ _ (by first | omega | (simp; omega))).trans (by first | assumption | (go_simp; done)); have fwA9 : wA.cell? ⟨w.heap.size + 1 + 1, 2, none⟩ = some (.int .i64 b2) := (hcwA _ _ (by first | omega | (simp; omega))).trans (by first | assumption | (go_simp; done))) | (go_at_call 25; refine (shift_t _ _ _ _ _ _ _ _ H.out).mono ?_; rintro e wS ⟨rfl, hbwS⟩; obtain ⟨hcwS, hfwS⟩ := bcell hbwS; have hzwS := hbwS.size; (try simp at hzwS); (try have zwS_0 : w.heap.size < wS.heap.size := (by omega)); (try have zwS_1 : w.heap.size + 1 < wS.heap.size := (by omega)); (try have zwS_2 : w.heap.size + 1 + 1 < wS.heap.size := (by omega)); (try have zwS_3 : w2.heap.size < wS.heap.size := (by omega)); (try have zwS_4 : wA.heap.size < wS.heap.size := (by omega)); have fwS0 : wS.cell? ⟨w.heap.size, 0, none⟩ = some (.int .i64 m) := (hcwS _ _ (by first | omega | (simp; omega))).trans (by first | assumption | (go_simp; done)); have fwS1 : wS.cell? ⟨w.heap.size, 1, none⟩ = some (.int .i64 x) := (hcwS _ _ (by first | omega | (simp; omega))).trans (by first | assumption | (go_simp; done)); have fwS2 : wS.cell? ⟨w.heap.size, 2, none⟩ = some (.int .i64 y) := (hcwS _ _ (by first | omega | (simp; omega))).trans (by first | assumption | (go_simp; done)); have fwS3 : wS.cell? ⟨w.heap.size, 3, none⟩ = some (.int .i64 z) := (hcwS _ _ (by first | omega | (simp; omega))).trans (by first | assumption | (go_simp; done)); have fwS4 : wS.cell? ⟨w.heap.size + 1, 0, none⟩ = some (.int .i64 a0) := (hcwS _ _ (by first | omega | (simp; omega))).trans (by first | assumption | (go_simp; done)); have fwS5 : wS.cell? ⟨w.heap.size + 1, 1, none⟩ = some (.int .i64 a1) := (hcwS _ _ (by first | omega | (simp; omega))).trans (by first | assumption | (go_simp; done)); have fwS6 : wS.cell? ⟨w.heap.size + 1, 2, none⟩ = some (.int .i64 a2) := (hcwS _ _ (by first | omega | (simp; omega))).trans (by first | assumption | (go_simp; done)); have fwS7 : wS.cell? ⟨w.heap.size + 1 + 1, 0, none⟩ = some (.int .i64 b0) := (hcwS _ _ (by first | omega | (simp; omega))).trans (by first | assumption | (go_simp; done)); have fwS8 : wS.cell? ⟨w.heap.size + 1 + 1, 1, none⟩ = some (.int .i64 b1) := (hcwS _ _ (by first | omega | (simp; omega))).trans (by first | assumption | (go_simp; done)); have fwS9 : wS.cell? ⟨w.heap.size + 1 + 1, 2, none⟩ = some (.int .i64 b2) := (hcwS _ _ (by first | omega | (simp; omega))).trans (by first | assumption | (go_simp; done))))
  · simp only [Exit.then]
    go_wp2_with fail
    refine (shift_t _ _ _ _ _ _ _ _ H.out).mono ?_
    rintro e w4 ⟨rfl, hb4⟩
    obtain ⟨hc4, hf4⟩ := bcell hb4
    have hz4 := hb4.size
    try simp at hz4
    have z4_0 : w.heap.size < w4.heap.size := by omega
    have z4_1 : w.heap.size + 1 < w4.heap.size := by omega
    have z4_2 : w.heap.size + 1 + 1 < w4.heap.size := by omega
    have z4_3 : wS.heap.size < w4.heap.size := by omega
    go_wp2_with fail
    refine (to_v (pt_v (sh_sum HR.out x a0 b0).symm (sh_sum HR.out y a1 b1).symm (sh_sum HR.out z a2 b2).symm) (shift_t _ _ _ _ _ _ _ _ HY.out)).mono ?_
    rintro e w5 ⟨rfl, hb5⟩
    obtain ⟨hc5, hf5⟩ := bcell hb5
    have hz5 := hb5.size
    try simp at hz5
    have z5_0 : w.heap.size < w5.heap.size := by omega
    have z5_1 : w.heap.size + 1 < w5.heap.size := by omega
    have z5_2 : w.heap.size + 1 + 1 < w5.heap.size := by omega
    have z5_3 : wS.heap.size < w5.heap.size := by omega
    have z5_4 : w4.heap.size < w5.heap.size := by omega
    go_wp2_with fail
    refine (to_v (pt_v (sh_diff HR.out x a0 b0 EX.out.1.1 EX.out.1.2) (sh_diff HR.out y a1 b1 EX.out.2.1.1 EX.out.2.1.2) (sh_diff HR.out z a2 b2 EX.out.2.2.1 EX.out.2.2.2)) (minus_t _ _ _ _ _ _ _ _ HS.out H.out)).mono ?_
    rintro e w6 ⟨rfl, hb6⟩
    obtain ⟨hc6, hf6⟩ := bcell hb6
    have hz6 := hb6.size
    try simp at hz6
    have z6_0 : w.heap.size < w6.heap.size := by omega
    have z6_1 : w.heap.size + 1 < w6.heap.size := by omega
    have z6_2 : w.heap.size + 1 + 1 < w6.heap.size := by omega
    have z6_3 : wS.heap.size < w6.heap.size := by omega
    have z6_4 : w4.heap.size < w6.heap.size := by omega
    go_wp2_with fail
    refine (add_any _ _ _ _ _ _ _).mono ?_
    rintro e w7 ⟨rfl, hb7⟩
    obtain ⟨hc7, hf7⟩ := bcell hb7
    have hz7 := hb7.size
    try simp at hz7
    have z7_0 : w.heap.size < w7.heap.size := by omega
    have z7_1 : w.heap.size + 1 < w7.heap.size := by omega
    have z7_2 : w.heap.size + 1 + 1 < w7.heap.size := by omega
    have z7_3 : wS.heap.size < w7.heap.size := by omega
    have z7_4 : w4.heap.size < w7.heap.size := by omega
    have z7_5 : w6.heap.size < w7.heap.size := by omega
    go_wp2_with fail
    refine (place_t _ _ _ _ _ (by rfl)).mono ?_
    rintro e w8 ⟨rfl, hb8⟩
    obtain ⟨hc8, hf8⟩ := bcell hb8
    have hz8 := hb8.size
    try simp at hz8
    have z8_0 : w.heap.size < w8.heap.size := by omega
    have z8_1 : w.heap.size + 1 < w8.heap.size := by omega
    have z8_2 : w.heap.size + 1 + 1 < w8.heap.size := by omega
    have z8_3 : wS.heap.size < w8.heap.size := by omega
    have z8_4 : w4.heap.size < w8.heap.size := by omega
    have z8_5 : w6.heap.size < w8.heap.size := by omega
    go_wp2_with fail
    refine (finer_t _ _ _ _ _ _ HR.out (p24 _ _ _) H24.out).mono ?_
    rintro e w9 ⟨rfl, hb9⟩
    obtain ⟨hc9, hf9⟩ := bcell hb9
    have hz9 := hb9.size
    try simp at hz9
    have z9_0 : w.heap.size < w9.heap.size := by omega
    have z9_1 : w.heap.size + 1 < w9.heap.size := by omega
    have z9_2 : w.heap.size + 1 + 1 < w9.heap.size := by omega
    have z9_3 : wS.heap.size < w9.heap.size := by omega
    have z9_4 : w4.heap.size < w9.heap.size := by omega
    have z9_5 : w6.heap.size < w9.heap.size := by omega
    have z9_6 : w8.heap.size < w9.heap.size := by omega
    go_wp2_with fail
    refine (to_v (by rw [HS.out]) (form_any _ _ _ _ _)).mono ?_
    rintro e w10 ⟨rfl, hb10⟩
    obtain ⟨hc10, hf10⟩ := bcell hb10
    have hz10 := hb10.size
    try simp at hz10
    have z10_0 : w.heap.size < w10.heap.size := by omega
    have z10_1 : w.heap.size + 1 < w10.heap.size := by omega
    have z10_2 : w.heap.size + 1 + 1 < w10.heap.size := by omega
    have z10_3 : wS.heap.size < w10.heap.size := by omega
    have z10_4 : w4.heap.size < w10.heap.size := by omega
    have z10_5 : w6.heap.size < w10.heap.size := by omega
    have z10_6 : w8.heap.size < w10.heap.size := by omega
    go_wp2_with fail
    refine (finer_t _ _ _ _ _ _ K.out H.out D.out).mono ?_
    rintro e w11 ⟨rfl, hb11⟩
    obtain ⟨hc11, hf11⟩ := bcell hb11
    have hz11 := hb11.size
    try simp at hz11
    have z11_0 : w.heap.size < w11.heap.size := by omega
    have z11_1 : w.heap.size + 1 < w11.heap.size := by omega
    have z11_2 : w.heap.size + 1 + 1 < w11.heap.size := by omega
    have z11_3 : wS.heap.size < w11.heap.size := by omega
    have z11_4 : w4.heap.size < w11.heap.size := by omega
    have z11_5 : w6.heap.size < w11.heap.size := by omega
    have z11_6 : w8.heap.size < w11.heap.size := by omega
    go_wp2_with fail
    refine (to_v (pt_v (sh_fine HR.out K.out D.out x a0 EX.out.1.1 EX.out.1.2) (sh_fine HR.out K.out D.out y a1 EX.out.2.1.1 EX.out.2.1.2) (sh_fine HR.out K.out D.out z a2 EX.out.2.2.1 EX.out.2.2.2)) (shift_t _ _ _ _ _ _ _ _ FI.out)).mono ?_
    rintro e w12 ⟨rfl, hb12⟩
    obtain ⟨hc12, hf12⟩ := bcell hb12
    have hz12 := hb12.size
    try simp at hz12
    have z12_0 : w.heap.size < w12.heap.size := by omega
    have z12_1 : w.heap.size + 1 < w12.heap.size := by omega
    have z12_2 : w.heap.size + 1 + 1 < w12.heap.size := by omega
    have z12_3 : wS.heap.size < w12.heap.size := by omega
    have z12_4 : w4.heap.size < w12.heap.size := by omega
    have z12_5 : w6.heap.size < w12.heap.size := by omega
    have z12_6 : w8.heap.size < w12.heap.size := by omega
    have z12_7 : w11.heap.size < w12.heap.size := by omega
    go_wp2_with fail
    refine (shift_t _ _ _ _ _ _ _ _ H.out).mono ?_
    rintro e w13 ⟨rfl, hb13⟩
    obtain ⟨hc13, hf13⟩ := bcell hb13
    have hz13 := hb13.size
    try simp at hz13
    have z13_0 : w.heap.size < w13.heap.size := by omega
    have z13_1 : w.heap.size + 1 < w13.heap.size := by omega
    have z13_2 : w.heap.size + 1 + 1 < w13.heap.size := by omega
    have z13_3 : wS.heap.size < w13.heap.size := by omega
    have z13_4 : w4.heap.size < w13.heap.size := by omega
    have z13_5 : w6.heap.size < w13.heap.size := by omega
    have z13_6 : w8.heap.size < w13.heap.size := by omega
    have z13_7 : w11.heap.size < w13.heap.size := by omega
    have z13_8 : w12.heap.size < w13.heap.size := by omega
    go_wp2_with fail
    refine (finer_t _ _ _ _ _ _ K.out HY.out D.out).mono ?_
    rintro e w14 ⟨rfl, hb14⟩
    obtain ⟨hc14, hf14⟩ := bcell hb14
    have hz14 := hb14.size
    try simp at hz14
    have z14_0 : w.heap.size < w14.heap.size := by omega
    have z14_1 : w.heap.size + 1 < w14.heap.size := by omega
    have z14_2 : w.heap.size + 1 + 1 < w14.heap.size := by omega
    have z14_3 : wS.heap.size < w14.heap.size := by omega
    have z14_4 : w4.heap.size < w14.heap.size := by omega
    have z14_5 : w6.heap.size < w14.heap.size := by omega
    have z14_6 : w8.heap.size < w14.heap.size := by omega
    have z14_7 : w11.heap.size < w14.heap.size := by omega
    have z14_8 : w12.heap.size < w14.heap.size := by omega
    have z14_9 : w13.heap.size < w14.heap.size := by omega
    go_wp2_with fail
    refine (to_v (ord_v LZ.out) (order_t _ _ _ _ _ _ _ _ _ FI.out H.out)).mono ?_
    rintro e w15 ⟨rfl, hb15⟩
    obtain ⟨hc15, hf15⟩ := bcell hb15
    have hz15 := hb15.size
    try simp at hz15
    have z15_0 : w.heap.size < w15.heap.size := by omega
    have z15_1 : w.heap.size + 1 < w15.heap.size := by omega
    have z15_2 : w.heap.size + 1 + 1 < w15.heap.size := by omega
    have z15_3 : wS.heap.size < w15.heap.size := by omega
    have z15_4 : w4.heap.size < w15.heap.size := by omega
    have z15_5 : w6.heap.size < w15.heap.size := by omega
    have z15_6 : w8.heap.size < w15.heap.size := by omega
    have z15_7 : w11.heap.size < w15.heap.size := by omega
    have z15_8 : w12.heap.size < w15.heap.size := by omega
    have z15_9 : w13.heap.size < w15.heap.size := by omega
    go_wp2
    go_ret
    refine ⟨rfl, ?_⟩
    repeat (first | exact Below.refl _ _ | assumption | exact Below.alloc (Below.refl _ _) (Nat.le_refl _) _ | refine Below.setCell ?_ (by first | (simp; done) | (simp; omega) | omega) _ | refine below_drewN ?_ _ | refine Below.alloc ?_ (by first | (simp; done) | (simp; omega) | omega) _ | refine Below.trans ?_ (Below.mono (by assumption) (by first | (simp; done) | (simp; omega) | omega)))
  · simp only [Exit.then]
    go_wp2_with fail
    refine (shift_t _ _ _ _ _ _ _ _ H.out).mono ?_
    rintro e w4 ⟨rfl, hb4⟩
    obtain ⟨hc4, hf4⟩ := bcell hb4
    have hz4 := hb4.size
    try simp at hz4
    have z4_0 : w.heap.size < w4.heap.size := by omega
    have z4_1 : w.heap.size + 1 < w4.heap.size := by omega
    have z4_2 : w.heap.size + 1 + 1 < w4.heap.size := by omega
    have z4_3 : wA.heap.size < w4.heap.size := by omega
    go_wp2_with fail
    refine (to_v (pt_v (sh_sum HR.out x a0 b0).symm (sh_sum HR.out y a1 b1).symm (sh_sum HR.out z a2 b2).symm) (shift_t _ _ _ _ _ _ _ _ HY.out)).mono ?_
    rintro e w5 ⟨rfl, hb5⟩
    obtain ⟨hc5, hf5⟩ := bcell hb5
    have hz5 := hb5.size
    try simp at hz5
    have z5_0 : w.heap.size < w5.heap.size := by omega
    have z5_1 : w.heap.size + 1 < w5.heap.size := by omega
    have z5_2 : w.heap.size + 1 + 1 < w5.heap.size := by omega
    have z5_3 : wA.heap.size < w5.heap.size := by omega
    have z5_4 : w4.heap.size < w5.heap.size := by omega
    go_wp2_with fail
    refine (to_v (pt_v (sh_diff HR.out x a0 b0 EX.out.1.1 EX.out.1.2) (sh_diff HR.out y a1 b1 EX.out.2.1.1 EX.out.2.1.2) (sh_diff HR.out z a2 b2 EX.out.2.2.1 EX.out.2.2.2)) (minus_t _ _ _ _ _ _ _ _ HS.out H.out)).mono ?_
    rintro e w6 ⟨rfl, hb6⟩
    obtain ⟨hc6, hf6⟩ := bcell hb6
    have hz6 := hb6.size
    try simp at hz6
    have z6_0 : w.heap.size < w6.heap.size := by omega
    have z6_1 : w.heap.size + 1 < w6.heap.size := by omega
    have z6_2 : w.heap.size + 1 + 1 < w6.heap.size := by omega
    have z6_3 : wA.heap.size < w6.heap.size := by omega
    have z6_4 : w4.heap.size < w6.heap.size := by omega
    go_wp2_with fail
    refine (add_any _ _ _ _ _ _ _).mono ?_
    rintro e w7 ⟨rfl, hb7⟩
    obtain ⟨hc7, hf7⟩ := bcell hb7
    have hz7 := hb7.size
    try simp at hz7
    have z7_0 : w.heap.size < w7.heap.size := by omega
    have z7_1 : w.heap.size + 1 < w7.heap.size := by omega
    have z7_2 : w.heap.size + 1 + 1 < w7.heap.size := by omega
    have z7_3 : wA.heap.size < w7.heap.size := by omega
    have z7_4 : w4.heap.size < w7.heap.size := by omega
    have z7_5 : w6.heap.size < w7.heap.size := by omega
    go_wp2_with fail
    refine (place_t _ _ _ _ _ (by rfl)).mono ?_
    rintro e w8 ⟨rfl, hb8⟩
    obtain ⟨hc8, hf8⟩ := bcell hb8
    have hz8 := hb8.size
    try simp at hz8
    have z8_0 : w.heap.size < w8.heap.size := by omega
    have z8_1 : w.heap.size + 1 < w8.heap.size := by omega
    have z8_2 : w.heap.size + 1 + 1 < w8.heap.size := by omega
    have z8_3 : wA.heap.size < w8.heap.size := by omega
    have z8_4 : w4.heap.size < w8.heap.size := by omega
    have z8_5 : w6.heap.size < w8.heap.size := by omega
    go_wp2_with fail
    refine (finer_t _ _ _ _ _ _ HR.out (p24 _ _ _) H24.out).mono ?_
    rintro e w9 ⟨rfl, hb9⟩
    obtain ⟨hc9, hf9⟩ := bcell hb9
    have hz9 := hb9.size
    try simp at hz9
    have z9_0 : w.heap.size < w9.heap.size := by omega
    have z9_1 : w.heap.size + 1 < w9.heap.size := by omega
    have z9_2 : w.heap.size + 1 + 1 < w9.heap.size := by omega
    have z9_3 : wA.heap.size < w9.heap.size := by omega
    have z9_4 : w4.heap.size < w9.heap.size := by omega
    have z9_5 : w6.heap.size < w9.heap.size := by omega
    have z9_6 : w8.heap.size < w9.heap.size := by omega
    go_wp2_with fail
    refine (to_v (by rw [HS.out]) (form_any _ _ _ _ _)).mono ?_
    rintro e w10 ⟨rfl, hb10⟩
    obtain ⟨hc10, hf10⟩ := bcell hb10
    have hz10 := hb10.size
    try simp at hz10
    have z10_0 : w.heap.size < w10.heap.size := by omega
    have z10_1 : w.heap.size + 1 < w10.heap.size := by omega
    have z10_2 : w.heap.size + 1 + 1 < w10.heap.size := by omega
    have z10_3 : wA.heap.size < w10.heap.size := by omega
    have z10_4 : w4.heap.size < w10.heap.size := by omega
    have z10_5 : w6.heap.size < w10.heap.size := by omega
    have z10_6 : w8.heap.size < w10.heap.size := by omega
    go_wp2_with fail
    refine (finer_t _ _ _ _ _ _ K.out H.out D.out).mono ?_
    rintro e w11 ⟨rfl, hb11⟩
    obtain ⟨hc11, hf11⟩ := bcell hb11
    have hz11 := hb11.size
    try simp at hz11
    have z11_0 : w.heap.size < w11.heap.size := by omega
    have z11_1 : w.heap.size + 1 < w11.heap.size := by omega
    have z11_2 : w.heap.size + 1 + 1 < w11.heap.size := by omega
    have z11_3 : wA.heap.size < w11.heap.size := by omega
    have z11_4 : w4.heap.size < w11.heap.size := by omega
    have z11_5 : w6.heap.size < w11.heap.size := by omega
    have z11_6 : w8.heap.size < w11.heap.size := by omega
    go_wp2_with fail
    refine (to_v (pt_v (sh_fine HR.out K.out D.out x a0 EX.out.1.1 EX.out.1.2) (sh_fine HR.out K.out D.out y a1 EX.out.2.1.1 EX.out.2.1.2) (sh_fine HR.out K.out D.out z a2 EX.out.2.2.1 EX.out.2.2.2)) (shift_t _ _ _ _ _ _ _ _ FI.out)).mono ?_
    rintro e w12 ⟨rfl, hb12⟩
    obtain ⟨hc12, hf12⟩ := bcell hb12
    have hz12 := hb12.size
    try simp at hz12
    have z12_0 : w.heap.size < w12.heap.size := by omega
    have z12_1 : w.heap.size + 1 < w12.heap.size := by omega
    have z12_2 : w.heap.size + 1 + 1 < w12.heap.size := by omega
    have z12_3 : wA.heap.size < w12.heap.size := by omega
    have z12_4 : w4.heap.size < w12.heap.size := by omega
    have z12_5 : w6.heap.size < w12.heap.size := by omega
    have z12_6 : w8.heap.size < w12.heap.size := by omega
    have z12_7 : w11.heap.size < w12.heap.size := by omega
    go_wp2_with fail
    refine (shift_t _ _ _ _ _ _ _ _ H.out).mono ?_
    rintro e w13 ⟨rfl, hb13⟩
    obtain ⟨hc13, hf13⟩ := bcell hb13
    have hz13 := hb13.size
    try simp at hz13
    have z13_0 : w.heap.size < w13.heap.size := by omega
    have z13_1 : w.heap.size + 1 < w13.heap.size := by omega
    have z13_2 : w.heap.size + 1 + 1 < w13.heap.size := by omega
    have z13_3 : wA.heap.size < w13.heap.size := by omega
    have z13_4 : w4.heap.size < w13.heap.size := by omega
    have z13_5 : w6.heap.size < w13.heap.size := by omega
    have z13_6 : w8.heap.size < w13.heap.size := by omega
    have z13_7 : w11.heap.size < w13.heap.size := by omega
    have z13_8 : w12.heap.size < w13.heap.size := by omega
    go_wp2_with fail
    refine (finer_t _ _ _ _ _ _ K.out HY.out D.out).mono ?_
    rintro e w14 ⟨rfl, hb14⟩
    obtain ⟨hc14, hf14⟩ := bcell hb14
    have hz14 := hb14.size
    try simp at hz14
    have z14_0 : w.heap.size < w14.heap.size := by omega
    have z14_1 : w.heap.size + 1 < w14.heap.size := by omega
    have z14_2 : w.heap.size + 1 + 1 < w14.heap.size := by omega
    have z14_3 : wA.heap.size < w14.heap.size := by omega
    have z14_4 : w4.heap.size < w14.heap.size := by omega
    have z14_5 : w6.heap.size < w14.heap.size := by omega
    have z14_6 : w8.heap.size < w14.heap.size := by omega
    have z14_7 : w11.heap.size < w14.heap.size := by omega
    have z14_8 : w12.heap.size < w14.heap.size := by omega
    have z14_9 : w13.heap.size < w14.heap.size := by omega
    go_wp2_with fail
    refine (to_v (ord_v LZ.out) (order_t _ _ _ _ _ _ _ _ _ FI.out H.out)).mono ?_
    rintro e w15 ⟨rfl, hb15⟩
    obtain ⟨hc15, hf15⟩ := bcell hb15
    have hz15 := hb15.size
    try simp at hz15
    have z15_0 : w.heap.size < w15.heap.size := by omega
    have z15_1 : w.heap.size + 1 < w15.heap.size := by omega
    have z15_2 : w.heap.size + 1 + 1 < w15.heap.size := by omega
    have z15_3 : wA.heap.size < w15.heap.size := by omega
    have z15_4 : w4.heap.size < w15.heap.size := by omega
    have z15_5 : w6.heap.size < w15.heap.size := by omega
    have z15_6 : w8.heap.size < w15.heap.size := by omega
    have z15_7 : w11.heap.size < w15.heap.size := by omega
    have z15_8 : w12.heap.size < w15.heap.size := by omega
    have z15_9 : w13.heap.size < w15.heap.size := by omega
    go_wp2
    go_ret
    refine ⟨rfl, ?_⟩
    repeat (first | exact Below.refl _ _ | assumption | exact Below.alloc (Below.refl _ _) (Nat.le_refl _) _ | refine Below.setCell ?_ (by first | (simp; done) | (simp; omega) | omega) _ | refine below_drewN ?_ _ | refine Below.alloc ?_ (by first | (simp; done) | (simp; omega) | omega) _ | refine Below.trans ?_ (Below.mono (by assumption) (by first | (simp; done) | (simp; omega) | omega)))
  · simp only [Exit.then]
    go_wp2_with fail
    refine (shift_t _ _ _ _ _ _ _ _ H.out).mono ?_
    rintro e w4 ⟨rfl, hb4⟩
    obtain ⟨hc4, hf4⟩ := bcell hb4
    have hz4 := hb4.size
    try simp at hz4
    have z4_0 : w.heap.size < w4.heap.size := by omega
    have z4_1 : w.heap.size + 1 < w4.heap.size := by omega
    have z4_2 : w.heap.size + 1 + 1 < w4.heap.size := by omega
    have z4_3 : w2.heap.size < w4.heap.size := by omega
    go_wp2_with fail
    refine (to_v (pt_v (sh_sum HR.out x a0 b0).symm (sh_sum HR.out y a1 b1).symm (sh_sum HR.out z a2 b2).symm) (shift_t _ _ _ _ _ _ _ _ HY.out)).mono ?_
    rintro e w5 ⟨rfl, hb5⟩
    obtain ⟨hc5, hf5⟩ := bcell hb5
    have hz5 := hb5.size
    try simp at hz5
    have z5_0 : w.heap.size < w5.heap.size := by omega
    have z5_1 : w.heap.size + 1 < w5.heap.size := by omega
    have z5_2 : w.heap.size + 1 + 1 < w5.heap.size := by omega
    have z5_3 : w2.heap.size < w5.heap.size := by omega
    have z5_4 : w4.heap.size < w5.heap.size := by omega
    go_wp2_with fail
    refine (to_v (pt_v (sh_diff HR.out x a0 b0 EX.out.1.1 EX.out.1.2) (sh_diff HR.out y a1 b1 EX.out.2.1.1 EX.out.2.1.2) (sh_diff HR.out z a2 b2 EX.out.2.2.1 EX.out.2.2.2)) (minus_t _ _ _ _ _ _ _ _ HS.out H.out)).mono ?_
    rintro e w6 ⟨rfl, hb6⟩
    obtain ⟨hc6, hf6⟩ := bcell hb6
    have hz6 := hb6.size
    try simp at hz6
    have z6_0 : w.heap.size < w6.heap.size := by omega
    have z6_1 : w.heap.size + 1 < w6.heap.size := by omega
    have z6_2 : w.heap.size + 1 + 1 < w6.heap.size := by omega
    have z6_3 : w2.heap.size < w6.heap.size := by omega
    have z6_4 : w4.heap.size < w6.heap.size := by omega
    go_wp2_with fail
    refine (add_any _ _ _ _ _ _ _).mono ?_
    rintro e w7 ⟨rfl, hb7⟩
    obtain ⟨hc7, hf7⟩ := bcell hb7
    have hz7 := hb7.size
    try simp at hz7
    have z7_0 : w.heap.size < w7.heap.size := by omega
    have z7_1 : w.heap.size + 1 < w7.heap.size := by omega
    have z7_2 : w.heap.size + 1 + 1 < w7.heap.size := by omega
    have z7_3 : w2.heap.size < w7.heap.size := by omega
    have z7_4 : w4.heap.size < w7.heap.size := by omega
    have z7_5 : w6.heap.size < w7.heap.size := by omega
    go_wp2_with fail
    refine (place_t _ _ _ _ _ (by rfl)).mono ?_
    rintro e w8 ⟨rfl, hb8⟩
    obtain ⟨hc8, hf8⟩ := bcell hb8
    have hz8 := hb8.size
    try simp at hz8
    have z8_0 : w.heap.size < w8.heap.size := by omega
    have z8_1 : w.heap.size + 1 < w8.heap.size := by omega
    have z8_2 : w.heap.size + 1 + 1 < w8.heap.size := by omega
    have z8_3 : w2.heap.size < w8.heap.size := by omega
    have z8_4 : w4.heap.size < w8.heap.size := by omega
    have z8_5 : w6.heap.size < w8.heap.size := by omega
    go_wp2_with fail
    refine (finer_t _ _ _ _ _ _ HR.out (p24 _ _ _) H24.out).mono ?_
    rintro e w9 ⟨rfl, hb9⟩
    obtain ⟨hc9, hf9⟩ := bcell hb9
    have hz9 := hb9.size
    try simp at hz9
    have z9_0 : w.heap.size < w9.heap.size := by omega
    have z9_1 : w.heap.size + 1 < w9.heap.size := by omega
    have z9_2 : w.heap.size + 1 + 1 < w9.heap.size := by omega
    have z9_3 : w2.heap.size < w9.heap.size := by omega
    have z9_4 : w4.heap.size < w9.heap.size := by omega
    have z9_5 : w6.heap.size < w9.heap.size := by omega
    have z9_6 : w8.heap.size < w9.heap.size := by omega
    go_wp2_with fail
    refine (to_v (by rw [HS.out]) (form_any _ _ _ _ _)).mono ?_
    rintro e w10 ⟨rfl, hb10⟩
    obtain ⟨hc10, hf10⟩ := bcell hb10
    have hz10 := hb10.size
    try simp at hz10
    have z10_0 : w.heap.size < w10.heap.size := by omega
    have z10_1 : w.heap.size + 1 < w10.heap.size := by omega
    have z10_2 : w.heap.size + 1 + 1 < w10.heap.size := by omega
    have z10_3 : w2.heap.size < w10.heap.size := by omega
    have z10_4 : w4.heap.size < w10.heap.size := by omega
    have z10_5 : w6.heap.size < w10.heap.size := by omega
    have z10_6 : w8.heap.size < w10.heap.size := by omega
    go_wp2_with fail
    refine (finer_t _ _ _ _ _ _ K.out H.out D.out).mono ?_
    rintro e w11 ⟨rfl, hb11⟩
    obtain ⟨hc11, hf11⟩ := bcell hb11
    have hz11 := hb11.size
    try simp at hz11
    have z11_0 : w.heap.size < w11.heap.size := by omega
    have z11_1 : w.heap.size + 1 < w11.heap.size := by omega
    have z11_2 : w.heap.size + 1 + 1 < w11.heap.size := by omega
    have z11_3 : w2.heap.size < w11.heap.size := by omega
    have z11_4 : w4.heap.size < w11.heap.size := by omega
    have z11_5 : w6.heap.size < w11.heap.size := by omega
    have z11_6 : w8.heap.size < w11.heap.size := by omega
    go_wp2_with fail
    refine (to_v (pt_v (sh_fine HR.out K.out D.out x a0 EX.out.1.1 EX.out.1.2) (sh_fine HR.out K.out D.out y a1 EX.out.2.1.1 EX.out.2.1.2) (sh_fine HR.out K.out D.out z a2 EX.out.2.2.1 EX.out.2.2.2)) (shift_t _ _ _ _ _ _ _ _ FI.out)).mono ?_
    rintro e w12 ⟨rfl, hb12⟩
    obtain ⟨hc12, hf12⟩ := bcell hb12
    have hz12 := hb12.size
    try simp at hz12
    have z12_0 : w.heap.size < w12.heap.size := by omega
    have z12_1 : w.heap.size + 1 < w12.heap.size := by omega
    have z12_2 : w.heap.size + 1 + 1 < w12.heap.size := by omega
    have z12_3 : w2.heap.size < w12.heap.size := by omega
    have z12_4 : w4.heap.size < w12.heap.size := by omega
    have z12_5 : w6.heap.size < w12.heap.size := by omega
    have z12_6 : w8.heap.size < w12.heap.size := by omega
    have z12_7 : w11.heap.size < w12.heap.size := by omega
    go_wp2_with fail
    refine (shift_t _ _ _ _ _ _ _ _ H.out).mono ?_
    rintro e w13 ⟨rfl, hb13⟩
    obtain ⟨hc13, hf13⟩ := bcell hb13
    have hz13 := hb13.size
    try simp at hz13
    have z13_0 : w.heap.size < w13.heap.size := by omega
    have z13_1 : w.heap.size + 1 < w13.heap.size := by omega
    have z13_2 : w.heap.size + 1 + 1 < w13.heap.size := by omega
    have z13_3 : w2.heap.size < w13.heap.size := by omega
    have z13_4 : w4.heap.size < w13.heap.size := by omega
    have z13_5 : w6.heap.size < w13.heap.size := by omega
    have z13_6 : w8.heap.size < w13.heap.size := by omega
    have z13_7 : w11.heap.size < w13.heap.size := by omega
    have z13_8 : w12.heap.size < w13.heap.size := by omega
    go_wp2_with fail
    refine (finer_t _ _ _ _ _ _ K.out HY.out D.out).mono ?_
    rintro e w14 ⟨rfl, hb14⟩
    obtain ⟨hc14, hf14⟩ := bcell hb14
    have hz14 := hb14.size
    try simp at hz14
    have z14_0 : w.heap.size < w14.heap.size := by omega
    have z14_1 : w.heap.size + 1 < w14.heap.size := by omega
    have z14_2 : w.heap.size + 1 + 1 < w14.heap.size := by omega
    have z14_3 : w2.heap.size < w14.heap.size := by omega
    have z14_4 : w4.heap.size < w14.heap.size := by omega
    have z14_5 : w6.heap.size < w14.heap.size := by omega
    have z14_6 : w8.heap.size < w14.heap.size := by omega
    have z14_7 : w11.heap.size < w14.heap.size := by omega
    have z14_8 : w12.heap.size < w14.heap.size := by omega
    have z14_9 : w13.heap.size < w14.heap.size := by omega
    go_wp2_with fail
    refine (to_v (ord_v LZ.out) (order_t _ _ _ _ _ _ _ _ _ FI.out H.out)).mono ?_
    rintro e w15 ⟨rfl, hb15⟩
    obtain ⟨hc15, hf15⟩ := bcell hb15
    have hz15 := hb15.size
    try simp at hz15
    have z15_0 : w.heap.size < w15.heap.size := by omega
    have z15_1 : w.heap.size + 1 < w15.heap.size := by omega
    have z15_2 : w.heap.size + 1 + 1 < w15.heap.size := by omega
    have z15_3 : w2.heap.size < w15.heap.size := by omega
    have z15_4 : w4.heap.size < w15.heap.size := by omega
    have z15_5 : w6.heap.size < w15.heap.size := by omega
    have z15_6 : w8.heap.size < w15.heap.size := by omega
    have z15_7 : w11.heap.size < w15.heap.size := by omega
    have z15_8 : w12.heap.size < w15.heap.size := by omega
    have z15_9 : w13.heap.size < w15.heap.size := by omega
    go_wp2
    go_ret
    refine ⟨rfl, ?_⟩
    repeat (first | exact Below.refl _ _ | assumption | exact Below.alloc (Below.refl _ _) (Nat.le_refl _) _ | refine Below.setCell ?_ (by first | (simp; done) | (simp; omega) | omega) _ | refine below_drewN ?_ _ | refine Below.alloc ?_ (by first | (simp; done) | (simp; omega) | omega) _ | refine Below.trans ?_ (Below.mono (by assumption) (by first | (simp; done) | (simp; omega) | omega)))

theorem shifts_any (m x y z k a0 a1 a2 b0 b1 b2 : Int) (w : World) : Calls Try.prog 6 #[.agg #[.int .i64 m, .int .i64 x, .int .i64 y, .int .i64 z], .agg #[.int .i64 a0, .int .i64 a1, .int .i64 a2], .agg #[.int .i64 b0, .int .i64 b1, .int .i64 b2], .int .i64 k] w fun e w' => e = .returned (.bool true) ∧ Below w.heap.size w w' := by
  cases h : formB m x y z with
  | false => exact shifts_f _ _ _ _ _ _ _ _ _ _ _ w h
  | true =>
    cases hk : rightB k with
    | false => exact shifts_r _ _ _ _ _ _ _ _ _ _ _ w h hk
    | true =>
      by_cases hd : k % m = 0
      · exact shifts_t _ _ _ _ _ _ _ _ _ _ _ w h hk hd
      · exact shifts_d _ _ _ _ _ _ _ _ _ _ _ w h hk hd

end Go.Proofs.Ytpjljlnkfimbaaa
