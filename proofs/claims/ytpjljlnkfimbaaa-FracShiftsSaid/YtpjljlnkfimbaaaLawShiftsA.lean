/-
  The law FracShifts, walked: it returns true.
-/
import Derived.Test.YtpjljlnkfimbaaaLawTotalB
import Derived.Deep.RegionHeld3
namespace Go.Proofs.Ytpjljlnkfimbaaa
open Go.RowKit
attribute [local irreducible] World.setCell

theorem keep_alloc {w : World} {a : Addr} {o : Obj} {v : Value} (h : w.cell? a = some v) : (w.alloc o).cell? a = some v := (World.cell?_alloc_some w a o (by rw [h]; rfl)).trans h
theorem keep_set {w : World} {p a : Addr} {u v : Value} (h : w.cell? a = some v) (hn : p.block ≠ a.block) : (w.setCell p u).cell? a = some v := (World.cell?_setCell_far w p a u hn).trans h

set_option maxHeartbeats 400000 in
set_option maxRecDepth 100000 in
theorem shifts_f (m x y z k a0 a1 a2 b0 b1 b2 : Int) (w : World) (h : formB m x y z = false):
    Calls Try.prog 6 #[.agg #[.int .i64 m, .int .i64 x, .int .i64 y, .int .i64 z], .agg #[.int .i64 a0, .int .i64 a1, .int .i64 a2], .agg #[.int .i64 b0, .int .i64 b1, .int .i64 b2], .int .i64 k] w fun e w' => e = .returned (.bool true) ∧ Below w.heap.size w w' := by
  have H := Lib.hid h; clear h
  go_enter Try.func6, Try.ntmps6
  go_wp2_with fail
  refine (awake_any _).mono ?_
  rintro e w1 ⟨rfl, hb1⟩
  obtain ⟨hc1, hf1⟩ := bcell hb1
  have hz1 := hb1.size
  try simp at hz1
  have z1_0 : w.heap.size < w1.heap.size := by omega
  have z1_1 : w.heap.size + 1 < w1.heap.size := by omega
  have z1_2 : w.heap.size + 1 + 1 < w1.heap.size := by omega
  go_wp2_with fail
  refine (to_v (by rw [H.out]) (form_any _ _ _ _ _)).mono ?_
  rintro e w2 ⟨rfl, hb2⟩
  obtain ⟨hc2, hf2⟩ := bcell hb2
  have hz2 := hb2.size
  try simp at hz2
  have z2_0 : w.heap.size < w2.heap.size := by omega
  have z2_1 : w.heap.size + 1 < w2.heap.size := by omega
  have z2_2 : w.heap.size + 1 + 1 < w2.heap.size := by omega
  go_wp2_with fail
  refine (shift_f _ _ _ _ _ _ _ _ H.out).mono ?_
  rintro e w3 ⟨rfl, hb3⟩
  obtain ⟨hc3, hf3⟩ := bcell hb3
  have hz3 := hb3.size
  try simp at hz3
  have z3_0 : w.heap.size < w3.heap.size := by omega
  have z3_1 : w.heap.size + 1 < w3.heap.size := by omega
  have z3_2 : w.heap.size + 1 + 1 < w3.heap.size := by omega
  go_wp2
  go_ret
  refine ⟨rfl, ?_⟩
  repeat (first | exact Below.refl _ _ | assumption | exact Below.alloc (Below.refl _ _) (Nat.le_refl _) _ | refine Below.setCell ?_ (by first | (simp; done) | (simp; omega) | omega) _ | refine below_drewN ?_ _ | refine Below.alloc ?_ (by first | (simp; done) | (simp; omega) | omega) _ | refine Below.trans ?_ (Below.mono (by assumption) (by first | (simp; done) | (simp; omega) | omega)))

theorem sh_form {m x y z : Int} (h : formB m x y z = true) (a b c : Int) : formB m (a % m) (b % m) (c % m) = true := by
  have hr := formB_right h
  have hp := right_pos hr
  have b := fun a => emod_bd a m hp.1
  simp [formB, hr, inB, b]
theorem sh_sum {m : Int} (h : rightB m = true) (x a b : Int) : (x + ((a + b) % 24) * (m / 24)) % m = ((x + a * (m / 24)) % m + b * (m / 24)) % m := by
  rcases (rightB_iff m).1 h with rfl | rfl | rfl | rfl <;> omega
theorem sh_diff {m : Int} (h : rightB m = true) (x a b : Int) (_h0 : 0 ≤ x) (h1 : x < m) : ((x + ((a + b) % 24) * (m / 24)) % m - x) % m = ((a + b) % 24) % 24 * (m / 24) := by
  rcases (rightB_iff m).1 h with rfl | rfl | rfl | rfl <;> omega
theorem sh_fine {m k : Int} (h : rightB m = true) (hk : rightB k = true) (hd : k % m = 0) (x a : Int) (_h0 : 0 ≤ x) (h1 : x < m) : (x * (k / m) + a * (k / 24)) % k = (x + a * (m / 24)) % m * (k / m) := by
  rcases (rightB_iff m).1 h with rfl | rfl | rfl | rfl <;> rcases (rightB_iff k).1 hk with rfl | rfl | rfl | rfl <;> first | (simp at hd; done) | omega
theorem sh_lex {m k : Int} (h : rightB m = true) (hk : rightB k = true) (hd : k % m = 0) (x : Int) : x * (k / m) * (192 / k) = x * (192 / m) := by
  rcases (rightB_iff m).1 h with rfl | rfl | rfl | rfl <;> rcases (rightB_iff k).1 hk with rfl | rfl | rfl | rfl <;> first | (simp at hd; done) | omega
theorem fi_form {m k x y z : Int} (h : formB m x y z = true) (hk : rightB k = true) (hd : k % m = 0) : formB k (x * (k / m)) (y * (k / m)) (z * (k / m)) = true := by
  have hr := formB_right h
  obtain ⟨_, hx, hy, hz⟩ := formB_t h
  rcases (rightB_iff m).1 hr with rfl | rfl | rfl | rfl <;> rcases (rightB_iff k).1 hk with rfl | rfl | rfl | rfl <;> first | (simp at hd; done) | (simp [formB, rightB, inB]; omega)
theorem m24 {m : Int} (h : rightB m = true) : m % 24 = 0 := by rcases (rightB_iff m).1 h with rfl | rfl | rfl | rfl <;> rfl
theorem p24 (a b c : Int) : formB 24 (a % 24) (b % 24) (c % 24) = true := by
  have b := fun a => emod_bd a 24 (by omega)
  simp [formB, rightB, inB, b]

set_option maxHeartbeats 6400000 in
set_option maxRecDepth 100000 in
theorem shifts_r (m x y z k a0 a1 a2 b0 b1 b2 : Int) (w : World) (h : formB m x y z = true) (hk : rightB k = false):
    Calls Try.prog 6 #[.agg #[.int .i64 m, .int .i64 x, .int .i64 y, .int .i64 z], .agg #[.int .i64 a0, .int .i64 a1, .int .i64 a2], .agg #[.int .i64 b0, .int .i64 b1, .int .i64 b2], .int .i64 k] w fun e w' => e = .returned (.bool true) ∧ Below w.heap.size w w' := by
  have H := Lib.hid h; have HR := Lib.hid (formB_right h)
  obtain ⟨_, hx, hy, hz⟩ := formB_t h
  have EX := Lib.hid (And.intro hx (And.intro hy hz)); clear hx hy hz
  have HS := Lib.hid (sh_form h (x + ((a0 + b0) % 24) * (m / 24)) (y + ((a1 + b1) % 24) * (m / 24)) (z + ((a2 + b2) % 24) * (m / 24)))
  have HY := Lib.hid (sh_form h (x + a0 * (m / 24)) (y + a1 * (m / 24)) (z + a2 * (m / 24)))
  have H24 := Lib.hid (m24 (formB_right h))
  have K := Lib.hid hk; clear hk h
  go_enter Try.func6, Try.ntmps6
  go_wp2_with fail
  refine (awake_any _).mono ?_
  rintro e w1 ⟨rfl, hb1⟩
  obtain ⟨hc1, hf1⟩ := bcell hb1
  have hz1 := hb1.size
  try simp at hz1
  have z1_0 : w.heap.size < w1.heap.size := by omega
  have z1_1 : w.heap.size + 1 < w1.heap.size := by omega
  have z1_2 : w.heap.size + 1 + 1 < w1.heap.size := by omega
  go_wp2_with fail
  refine (to_v (by rw [H.out]) (form_any _ _ _ _ _)).mono ?_
  rintro e w2 ⟨rfl, hb2⟩
  obtain ⟨hc2, hf2⟩ := bcell hb2
  have hz2 := hb2.size
  try simp at hz2
  have z2_0 : w.heap.size < w2.heap.size := by omega
  have z2_1 : w.heap.size + 1 < w2.heap.size := by omega
  have z2_2 : w.heap.size + 1 + 1 < w2.heap.size := by omega
  go_wp2
  go_region_held3 (fun w' => w'.cell? ⟨w.heap.size, 0, none⟩ = some (.int .i64 m) ∧ w'.cell? ⟨w.heap.size, 1, none⟩ = some (.int .i64 x) ∧ w'.cell? ⟨w.heap.size, 2, none⟩ = some (.int .i64 y) ∧ w'.cell? ⟨w.heap.size, 3, none⟩ = some (.int .i64 z) ∧ w'.cell? ⟨w.heap.size + 1, 0, none⟩ = some (.int .i64 a0) ∧ w'.cell? ⟨w.heap.size + 1, 1, none⟩ = some (.int .i64 a1) ∧ w'.cell? ⟨w.heap.size + 1, 2, none⟩ = some (.int .i64 a2) ∧ w'.cell? ⟨w.heap.size + 1 + 1, 0, none⟩ = some (.int .i64 b0) ∧ w'.cell? ⟨w.heap.size + 1 + 1, 1, none⟩ = some (.int .i64 b1) ∧ w'.cell? ⟨w.heap.size + 1 + 1, 2, none⟩ = some (.int .i64 b2)) ((go_split_ands; (repeat' apply And.intro) <;> (repeat' (first | assumption | refine keep_alloc ?_ | refine keep_set ?_ ?_ | (dsimp only; omega) | omega | (go_simp; done))))) (first | (go_at_call 17; refine (add_any _ _ _ _ _ _ _).mono ?_; rintro e wA ⟨rfl, hbwA⟩; obtain ⟨hcwA, hfwA⟩ := bcell hbwA; have hzwA := hbwA.size; (try simp at hzwA); (try have zwA_0 : w.heap.size < wA.heap.size := (by omega)); (try have zwA_1 : w.heap.size + 1 < wA.heap.size := (by omega)); (try have zwA_2 : w.heap.size + 1 + 1 < wA.heap.size := (by omega)); (try have zwA_3 : w2.heap.size < wA.heap.size := (by omega)); (try have zwA_4 : wS.heap.size < wA.heap.size := (by omega)); have fwA0 : wA.cell? ⟨w.heap.size, 0, none⟩ = some (.int .i64 m) := (hcwA _ _ (by first | omega | (simp; omega))).trans (by first | assumption | (go_simp; done)); have fwA1 : wA.cell? ⟨w.heap.size, 1, none⟩ = some (.int .i64 x) := (hcwA _ _ (by first | omega | (simp; omega))).trans (by first | assumption | (go_simp; done)); have fwA2 : wA.cell? ⟨w.heap.size, 2, none⟩ = some (.int .i64 y) := (hcwA _ _ (by first | omega | (simp; omega))).trans (by first | assumption | (go_simp; done)); have fwA3 : wA.cell? ⟨w.heap.size, 3, none⟩ = some (.int .i64 z) := (hcwA _ _ (by first | omega | (simp; omega))).trans (by first | assumption | (go_simp; done)); have fwA4 : wA.cell? ⟨w.heap.size + 1, 0, none⟩ = some (.int .i64 a0) := (hcwA _ _ (by first | omega | (simp; omega))).trans (by first | assumption | (go_simp; done)); have fwA5 : wA.cell? ⟨w.heap.size + 1, 1, none⟩ = some (.int .i64 a1) := (hcwA _ _ (by first | omega | (simp; omega))).trans (by first | assumption | (go_simp; done)); have fwA6 : wA.cell? ⟨w.heap.size + 1, 2, none⟩ = some (.int .i64 a2) := (hcwA _ _ (by first | omega | (simp; omega))).trans (by first | assumption | (go_simp; done)); have fwA7 : wA.cell? ⟨w.heap.size + 1 + 1, 0, none⟩ = some (.int .i64 b0) := (hcwA _ _ (by first | omega | (simp; omega))).trans (by first | assumption | (go_simp; done)); have fwA8 : wA.cell? ⟨w.heap.size + 1 + 1, 1, none⟩ = some (.int .i64 b1) := (hcwA _ _ (by first | omega | (simp; omega))).trans (by first | assumption | (go_simp; done)); have fwA9 : wA.cell? ⟨w.heap.size + 1 + 1, 2, none⟩ = some (.int .i64 b2) := (hcwA _ _ (by first | omega | (simp; omega))).trans (by first | assumption | (go_simp; done))) | (go_at_call 25; refine (shift_t _ _ _ _ _ _ _ _ H.out).mono ?_; rintro e wS ⟨rfl, hbwS⟩; obtain ⟨hcwS, hfwS⟩ := bcell hbwS; have hzwS := hbwS.size; (try simp at hzwS); (try have zwS_0 : w.heap.size < wS.heap.size := (by omega)); (try have zwS_1 : w.heap.size + 1 < wS.heap.size := (by omega)); (try have zwS_2 : w.heap.size + 1 + 1 < wS.heap.size := (by omega)); (try have zwS_3 : w2.heap.size < wS.heap.size := (by omega)); (try have zwS_4 : wA.heap.size < wS.heap.size := (by omega)); have fwS0 : wS.cell? ⟨w.heap.size, 0, none⟩ = some (.int .i64 m) := (hcwS _ _ (by first | omega | (simp; omega))).trans (by first | assumption | (go_simp; done)); have fwS1 : wS.cell? ⟨w.heap.size, 1, none⟩ = some (.int .i64 x) := (hcwS _ _ (by first | omega | (simp; omega))).trans (by first | assumption | (go_simp; done)); have fwS2 : wS.cell? ⟨w.heap.size, 2, none⟩ = some (.int .i64 y) := (hcwS _ _ (by first | omega | (simp; omega))).trans (by first | assumption | (go_simp; done)); have fwS3 : wS.cell? ⟨w.heap.size, 3, none⟩ = some (.int .i64 z) := (hcwS _ _ (by first | omega | (simp; omega))).trans (by first | assumption | (go_simp; done)); have fwS4 : wS.cell? ⟨w.heap.size + 1, 0, none⟩ = some (.int .i64 a0) := (hcwS _ _ (by first | omega | (simp; omega))).trans (by first | assumption | (go_simp; done)); have fwS5 : wS.cell? ⟨w.heap.size + 1, 1, none⟩ = some (.int .i64 a1) := (hcwS _ _ (by first | omega | (simp; omega))).trans (by first | assumption | (go_simp; done)); have fwS6 : wS.cell? ⟨w.heap.size + 1, 2, none⟩ = some (.int .i64 a2) := (hcwS _ _ (by first | omega | (simp; omega))).trans (by first | assumption | (go_simp; done)); have fwS7 : wS.cell? ⟨w.heap.size + 1 + 1, 0, none⟩ = some (.int .i64 b0) := (hcwS _ _ (by first | omega | (simp; omega))).trans (by first | assumption | (go_simp; done)); have fwS8 : wS.cell? ⟨w.heap.size + 1 + 1, 1, none⟩ = some (.int .i64 b1) := (hcwS _ _ (by first | omega | (simp; omega))).trans (by first | assumption | (go_simp; done)); have fwS9 : wS.cell? ⟨w.heap.size + 1 + 1, 2, none⟩ = some (.int .i64 b2) := (hcwS _ _ (by first | omega | (simp; omega))).trans (by first | assumption | (go_simp; done))))
  · simp only [Exit.then]
    go_wp2_with fail
    refine (shift_t _ _ _ _ _ _ _ _ H.out).mono ?_
    rintro e w4 ⟨rfl, hb4⟩
    obtain ⟨hc4, hf4⟩ := bcell hb4
    have hz4 := hb4.size
    try simp at hz4
    have z4_0 : w.heap.size < w4.heap.size := by omega
    have z4_1 : w.heap.size + 1 < w4.heap.size := by omega
    have z4_2 : w.heap.size + 1 + 1 < w4.heap.size := by omega
    have z4_3 : wS.heap.size < w4.heap.size := by omega
    go_wp2_with fail
    refine (to_v (pt_v (sh_sum HR.out x a0 b0).symm (sh_sum HR.out y a1 b1).symm (sh_sum HR.out z a2 b2).symm) (shift_t _ _ _ _ _ _ _ _ HY.out)).mono ?_
    rintro e w5 ⟨rfl, hb5⟩
    obtain ⟨hc5, hf5⟩ := bcell hb5
    have hz5 := hb5.size
    try simp at hz5
    have z5_0 : w.heap.size < w5.heap.size := by omega
    have z5_1 : w.heap.size + 1 < w5.heap.size := by omega
    have z5_2 : w.heap.size + 1 + 1 < w5.heap.size := by omega
    have z5_3 : wS.heap.size < w5.heap.size := by omega
    have z5_4 : w4.heap.size < w5.heap.size := by omega
    go_wp2_with fail
    refine (to_v (pt_v (sh_diff HR.out x a0 b0 EX.out.1.1 EX.out.1.2) (sh_diff HR.out y a1 b1 EX.out.2.1.1 EX.out.2.1.2) (sh_diff HR.out z a2 b2 EX.out.2.2.1 EX.out.2.2.2)) (minus_t _ _ _ _ _ _ _ _ HS.out H.out)).mono ?_
    rintro e w6 ⟨rfl, hb6⟩
    obtain ⟨hc6, hf6⟩ := bcell hb6
    have hz6 := hb6.size
    try simp at hz6
    have z6_0 : w.heap.size < w6.heap.size := by omega
    have z6_1 : w.heap.size + 1 < w6.heap.size := by omega
    have z6_2 : w.heap.size + 1 + 1 < w6.heap.size := by omega
    have z6_3 : wS.heap.size < w6.heap.size := by omega
    have z6_4 : w4.heap.size < w6.heap.size := by omega
    go_wp2_with fail
    refine (add_any _ _ _ _ _ _ _).mono ?_
    rintro e w7 ⟨rfl, hb7⟩
    obtain ⟨hc7, hf7⟩ := bcell hb7
    have hz7 := hb7.size
    try simp at hz7
    have z7_0 : w.heap.size < w7.heap.size := by omega
    have z7_1 : w.heap.size + 1 < w7.heap.size := by omega
    have z7_2 : w.heap.size + 1 + 1 < w7.heap.size := by omega
    have z7_3 : wS.heap.size < w7.heap.size := by omega
    have z7_4 : w4.heap.size < w7.heap.size := by omega
    have z7_5 : w6.heap.size < w7.heap.size := by omega
    go_wp2_with fail
    refine (place_t _ _ _ _ _ (by rfl)).mono ?_
    rintro e w8 ⟨rfl, hb8⟩
    obtain ⟨hc8, hf8⟩ := bcell hb8
    have hz8 := hb8.size
    try simp at hz8
    have z8_0 : w.heap.size < w8.heap.size := by omega
    have z8_1 : w.heap.size + 1 < w8.heap.size := by omega
    have z8_2 : w.heap.size + 1 + 1 < w8.heap.size := by omega
    have z8_3 : wS.heap.size < w8.heap.size := by omega
    have z8_4 : w4.heap.size < w8.heap.size := by omega
    have z8_5 : w6.heap.size < w8.heap.size := by omega
    go_wp2_with fail
    refine (finer_t _ _ _ _ _ _ HR.out (p24 _ _ _) H24.out).mono ?_
    rintro e w9 ⟨rfl, hb9⟩
    obtain ⟨hc9, hf9⟩ := bcell hb9
    have hz9 := hb9.size
    try simp at hz9
    have z9_0 : w.heap.size < w9.heap.size := by omega
    have z9_1 : w.heap.size + 1 < w9.heap.size := by omega
    have z9_2 : w.heap.size + 1 + 1 < w9.heap.size := by omega
    have z9_3 : wS.heap.size < w9.heap.size := by omega
    have z9_4 : w4.heap.size < w9.heap.size := by omega
    have z9_5 : w6.heap.size < w9.heap.size := by omega
    have z9_6 : w8.heap.size < w9.heap.size := by omega
    go_wp2_with fail
    refine (to_v (by rw [HS.out]) (form_any _ _ _ _ _)).mono ?_
    rintro e w10 ⟨rfl, hb10⟩
    obtain ⟨hc10, hf10⟩ := bcell hb10
    have hz10 := hb10.size
    try simp at hz10
    have z10_0 : w.heap.size < w10.heap.size := by omega
    have z10_1 : w.heap.size + 1 < w10.heap.size := by omega
    have z10_2 : w.heap.size + 1 + 1 < w10.heap.size := by omega
    have z10_3 : wS.heap.size < w10.heap.size := by omega
    have z10_4 : w4.heap.size < w10.heap.size := by omega
    have z10_5 : w6.heap.size < w10.heap.size := by omega
    have z10_6 : w8.heap.size < w10.heap.size := by omega
    go_wp2_with fail
    refine (finer_r _ _ _ _ _ _ K.out).mono ?_
    rintro e w11 ⟨rfl, hb11⟩
    obtain ⟨hc11, hf11⟩ := bcell hb11
    have hz11 := hb11.size
    try simp at hz11
    have z11_0 : w.heap.size < w11.heap.size := by omega
    have z11_1 : w.heap.size + 1 < w11.heap.size := by omega
    have z11_2 : w.heap.size + 1 + 1 < w11.heap.size := by omega
    have z11_3 : wS.heap.size < w11.heap.size := by omega
    have z11_4 : w4.heap.size < w11.heap.size := by omega
    have z11_5 : w6.heap.size < w11.heap.size := by omega
    have z11_6 : w8.heap.size < w11.heap.size := by omega
    go_wp2
    go_ret
    refine ⟨rfl, ?_⟩
    repeat (first | exact Below.refl _ _ | assumption | exact Below.alloc (Below.refl _ _) (Nat.le_refl _) _ | refine Below.setCell ?_ (by first | (simp; done) | (simp; omega) | omega) _ | refine below_drewN ?_ _ | refine Below.alloc ?_ (by first | (simp; done) | (simp; omega) | omega) _ | refine Below.trans ?_ (Below.mono (by assumption) (by first | (simp; done) | (simp; omega) | omega)))
  · simp only [Exit.then]
    go_wp2_with fail
    refine (shift_t _ _ _ _ _ _ _ _ H.out).mono ?_
    rintro e w4 ⟨rfl, hb4⟩
    obtain ⟨hc4, hf4⟩ := bcell hb4
    have hz4 := hb4.size
    try simp at hz4
    have z4_0 : w.heap.size < w4.heap.size := by omega
    have z4_1 : w.heap.size + 1 < w4.heap.size := by omega
    have z4_2 : w.heap.size + 1 + 1 < w4.heap.size := by omega
    have z4_3 : wA.heap.size < w4.heap.size := by omega
    go_wp2_with fail
    refine (to_v (pt_v (sh_sum HR.out x a0 b0).symm (sh_sum HR.out y a1 b1).symm (sh_sum HR.out z a2 b2).symm) (shift_t _ _ _ _ _ _ _ _ HY.out)).mono ?_
    rintro e w5 ⟨rfl, hb5⟩
    obtain ⟨hc5, hf5⟩ := bcell hb5
    have hz5 := hb5.size
    try simp at hz5
    have z5_0 : w.heap.size < w5.heap.size := by omega
    have z5_1 : w.heap.size + 1 < w5.heap.size := by omega
    have z5_2 : w.heap.size + 1 + 1 < w5.heap.size := by omega
    have z5_3 : wA.heap.size < w5.heap.size := by omega
    have z5_4 : w4.heap.size < w5.heap.size := by omega
    go_wp2_with fail
    refine (to_v (pt_v (sh_diff HR.out x a0 b0 EX.out.1.1 EX.out.1.2) (sh_diff HR.out y a1 b1 EX.out.2.1.1 EX.out.2.1.2) (sh_diff HR.out z a2 b2 EX.out.2.2.1 EX.out.2.2.2)) (minus_t _ _ _ _ _ _ _ _ HS.out H.out)).mono ?_
    rintro e w6 ⟨rfl, hb6⟩
    obtain ⟨hc6, hf6⟩ := bcell hb6
    have hz6 := hb6.size
    try simp at hz6
    have z6_0 : w.heap.size < w6.heap.size := by omega
    have z6_1 : w.heap.size + 1 < w6.heap.size := by omega
    have z6_2 : w.heap.size + 1 + 1 < w6.heap.size := by omega
    have z6_3 : wA.heap.size < w6.heap.size := by omega
    have z6_4 : w4.heap.size < w6.heap.size := by omega
    go_wp2_with fail
    refine (add_any _ _ _ _ _ _ _).mono ?_
    rintro e w7 ⟨rfl, hb7⟩
    obtain ⟨hc7, hf7⟩ := bcell hb7
    have hz7 := hb7.size
    try simp at hz7
    have z7_0 : w.heap.size < w7.heap.size := by omega
    have z7_1 : w.heap.size + 1 < w7.heap.size := by omega
    have z7_2 : w.heap.size + 1 + 1 < w7.heap.size := by omega
    have z7_3 : wA.heap.size < w7.heap.size := by omega
    have z7_4 : w4.heap.size < w7.heap.size := by omega
    have z7_5 : w6.heap.size < w7.heap.size := by omega
    go_wp2_with fail
    refine (place_t _ _ _ _ _ (by rfl)).mono ?_
    rintro e w8 ⟨rfl, hb8⟩
    obtain ⟨hc8, hf8⟩ := bcell hb8
    have hz8 := hb8.size
    try simp at hz8
    have z8_0 : w.heap.size < w8.heap.size := by omega
    have z8_1 : w.heap.size + 1 < w8.heap.size := by omega
    have z8_2 : w.heap.size + 1 + 1 < w8.heap.size := by omega
    have z8_3 : wA.heap.size < w8.heap.size := by omega
    have z8_4 : w4.heap.size < w8.heap.size := by omega
    have z8_5 : w6.heap.size < w8.heap.size := by omega
    go_wp2_with fail
    refine (finer_t _ _ _ _ _ _ HR.out (p24 _ _ _) H24.out).mono ?_
    rintro e w9 ⟨rfl, hb9⟩
    obtain ⟨hc9, hf9⟩ := bcell hb9
    have hz9 := hb9.size
    try simp at hz9
    have z9_0 : w.heap.size < w9.heap.size := by omega
    have z9_1 : w.heap.size + 1 < w9.heap.size := by omega
    have z9_2 : w.heap.size + 1 + 1 < w9.heap.size := by omega
    have z9_3 : wA.heap.size < w9.heap.size := by omega
    have z9_4 : w4.heap.size < w9.heap.size := by omega
    have z9_5 : w6.heap.size < w9.heap.size := by omega
    have z9_6 : w8.heap.size < w9.heap.size := by omega
    go_wp2_with fail
    refine (to_v (by rw [HS.out]) (form_any _ _ _ _ _)).mono ?_
    rintro e w10 ⟨rfl, hb10⟩
    obtain ⟨hc10, hf10⟩ := bcell hb10
    have hz10 := hb10.size
    try simp at hz10
    have z10_0 : w.heap.size < w10.heap.size := by omega
    have z10_1 : w.heap.size + 1 < w10.heap.size := by omega
    have z10_2 : w.heap.size + 1 + 1 < w10.heap.size := by omega
    have z10_3 : wA.heap.size < w10.heap.size := by omega
    have z10_4 : w4.heap.size < w10.heap.size := by omega
    have z10_5 : w6.heap.size < w10.heap.size := by omega
    have z10_6 : w8.heap.size < w10.heap.size := by omega
    go_wp2_with fail
    refine (finer_r _ _ _ _ _ _ K.out).mono ?_
    rintro e w11 ⟨rfl, hb11⟩
    obtain ⟨hc11, hf11⟩ := bcell hb11
    have hz11 := hb11.size
    try simp at hz11
    have z11_0 : w.heap.size < w11.heap.size := by omega
    have z11_1 : w.heap.size + 1 < w11.heap.size := by omega
    have z11_2 : w.heap.size + 1 + 1 < w11.heap.size := by omega
    have z11_3 : wA.heap.size < w11.heap.size := by omega
    have z11_4 : w4.heap.size < w11.heap.size := by omega
    have z11_5 : w6.heap.size < w11.heap.size := by omega
    have z11_6 : w8.heap.size < w11.heap.size := by omega
    go_wp2
    go_ret
    refine ⟨rfl, ?_⟩
    repeat (first | exact Below.refl _ _ | assumption | exact Below.alloc (Below.refl _ _) (Nat.le_refl _) _ | refine Below.setCell ?_ (by first | (simp; done) | (simp; omega) | omega) _ | refine below_drewN ?_ _ | refine Below.alloc ?_ (by first | (simp; done) | (simp; omega) | omega) _ | refine Below.trans ?_ (Below.mono (by assumption) (by first | (simp; done) | (simp; omega) | omega)))
  · simp only [Exit.then]
    go_wp2_with fail
    refine (shift_t _ _ _ _ _ _ _ _ H.out).mono ?_
    rintro e w4 ⟨rfl, hb4⟩
    obtain ⟨hc4, hf4⟩ := bcell hb4
    have hz4 := hb4.size
    try simp at hz4
    have z4_0 : w.heap.size < w4.heap.size := by omega
    have z4_1 : w.heap.size + 1 < w4.heap.size := by omega
    have z4_2 : w.heap.size + 1 + 1 < w4.heap.size := by omega
    have z4_3 : w2.heap.size < w4.heap.size := by omega
    go_wp2_with fail
    refine (to_v (pt_v (sh_sum HR.out x a0 b0).symm (sh_sum HR.out y a1 b1).symm (sh_sum HR.out z a2 b2).symm) (shift_t _ _ _ _ _ _ _ _ HY.out)).mono ?_
    rintro e w5 ⟨rfl, hb5⟩
    obtain ⟨hc5, hf5⟩ := bcell hb5
    have hz5 := hb5.size
    try simp at hz5
    have z5_0 : w.heap.size < w5.heap.size := by omega
    have z5_1 : w.heap.size + 1 < w5.heap.size := by omega
    have z5_2 : w.heap.size + 1 + 1 < w5.heap.size := by omega
    have z5_3 : w2.heap.size < w5.heap.size := by omega
    have z5_4 : w4.heap.size < w5.heap.size := by omega
    go_wp2_with fail
    refine (to_v (pt_v (sh_diff HR.out x a0 b0 EX.out.1.1 EX.out.1.2) (sh_diff HR.out y a1 b1 EX.out.2.1.1 EX.out.2.1.2) (sh_diff HR.out z a2 b2 EX.out.2.2.1 EX.out.2.2.2)) (minus_t _ _ _ _ _ _ _ _ HS.out H.out)).mono ?_
    rintro e w6 ⟨rfl, hb6⟩
    obtain ⟨hc6, hf6⟩ := bcell hb6
    have hz6 := hb6.size
    try simp at hz6
    have z6_0 : w.heap.size < w6.heap.size := by omega
    have z6_1 : w.heap.size + 1 < w6.heap.size := by omega
    have z6_2 : w.heap.size + 1 + 1 < w6.heap.size := by omega
    have z6_3 : w2.heap.size < w6.heap.size := by omega
    have z6_4 : w4.heap.size < w6.heap.size := by omega
    go_wp2_with fail
    refine (add_any _ _ _ _ _ _ _).mono ?_
    rintro e w7 ⟨rfl, hb7⟩
    obtain ⟨hc7, hf7⟩ := bcell hb7
    have hz7 := hb7.size
    try simp at hz7
    have z7_0 : w.heap.size < w7.heap.size := by omega
    have z7_1 : w.heap.size + 1 < w7.heap.size := by omega
    have z7_2 : w.heap.size + 1 + 1 < w7.heap.size := by omega
    have z7_3 : w2.heap.size < w7.heap.size := by omega
    have z7_4 : w4.heap.size < w7.heap.size := by omega
    have z7_5 : w6.heap.size < w7.heap.size := by omega
    go_wp2_with fail
    refine (place_t _ _ _ _ _ (by rfl)).mono ?_
    rintro e w8 ⟨rfl, hb8⟩
    obtain ⟨hc8, hf8⟩ := bcell hb8
    have hz8 := hb8.size
    try simp at hz8
    have z8_0 : w.heap.size < w8.heap.size := by omega
    have z8_1 : w.heap.size + 1 < w8.heap.size := by omega
    have z8_2 : w.heap.size + 1 + 1 < w8.heap.size := by omega
    have z8_3 : w2.heap.size < w8.heap.size := by omega
    have z8_4 : w4.heap.size < w8.heap.size := by omega
    have z8_5 : w6.heap.size < w8.heap.size := by omega
    go_wp2_with fail
    refine (finer_t _ _ _ _ _ _ HR.out (p24 _ _ _) H24.out).mono ?_
    rintro e w9 ⟨rfl, hb9⟩
    obtain ⟨hc9, hf9⟩ := bcell hb9
    have hz9 := hb9.size
    try simp at hz9
    have z9_0 : w.heap.size < w9.heap.size := by omega
    have z9_1 : w.heap.size + 1 < w9.heap.size := by omega
    have z9_2 : w.heap.size + 1 + 1 < w9.heap.size := by omega
    have z9_3 : w2.heap.size < w9.heap.size := by omega
    have z9_4 : w4.heap.size < w9.heap.size := by omega
    have z9_5 : w6.heap.size < w9.heap.size := by omega
    have z9_6 : w8.heap.size < w9.heap.size := by omega
    go_wp2_with fail
    refine (to_v (by rw [HS.out]) (form_any _ _ _ _ _)).mono ?_
    rintro e w10 ⟨rfl, hb10⟩
    obtain ⟨hc10, hf10⟩ := bcell hb10
    have hz10 := hb10.size
    try simp at hz10
    have z10_0 : w.heap.size < w10.heap.size := by omega
    have z10_1 : w.heap.size + 1 < w10.heap.size := by omega
    have z10_2 : w.heap.size + 1 + 1 < w10.heap.size := by omega
    have z10_3 : w2.heap.size < w10.heap.size := by omega
    have z10_4 : w4.heap.size < w10.heap.size := by omega
    have z10_5 : w6.heap.size < w10.heap.size := by omega
    have z10_6 : w8.heap.size < w10.heap.size := by omega
    go_wp2_with fail
    refine (finer_r _ _ _ _ _ _ K.out).mono ?_
    rintro e w11 ⟨rfl, hb11⟩
    obtain ⟨hc11, hf11⟩ := bcell hb11
    have hz11 := hb11.size
    try simp at hz11
    have z11_0 : w.heap.size < w11.heap.size := by omega
    have z11_1 : w.heap.size + 1 < w11.heap.size := by omega
    have z11_2 : w.heap.size + 1 + 1 < w11.heap.size := by omega
    have z11_3 : w2.heap.size < w11.heap.size := by omega
    have z11_4 : w4.heap.size < w11.heap.size := by omega
    have z11_5 : w6.heap.size < w11.heap.size := by omega
    have z11_6 : w8.heap.size < w11.heap.size := by omega
    go_wp2
    go_ret
    refine ⟨rfl, ?_⟩
    repeat (first | exact Below.refl _ _ | assumption | exact Below.alloc (Below.refl _ _) (Nat.le_refl _) _ | refine Below.setCell ?_ (by first | (simp; done) | (simp; omega) | omega) _ | refine below_drewN ?_ _ | refine Below.alloc ?_ (by first | (simp; done) | (simp; omega) | omega) _ | refine Below.trans ?_ (Below.mono (by assumption) (by first | (simp; done) | (simp; omega) | omega)))

end Go.Proofs.Ytpjljlnkfimbaaa
