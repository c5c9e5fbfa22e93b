/-
  The law FracTotal where all places are in form; and all of it: it returns true.
-/
import Derived.Test.YtpjljlnkfimbaaaLawTotalA
namespace Go.Proofs.Ytpjljlnkfimbaaa
open Go.RowKit
attribute [local irreducible] World.setCell

theorem lexC_neg (a0 a1 a2 b0 b1 b2 : Int) : lexC a0 a1 a2 b0 b1 b2 < 0 ↔ a0 < b0 ∨ (a0 = b0 ∧ (a1 < b1 ∨ (a1 = b1 ∧ a2 < b2))) := by
  unfold lexC cmpC; (repeat' split) <;> omega
theorem lexC_pos (a0 a1 a2 b0 b1 b2 : Int) : 0 < lexC a0 a1 a2 b0 b1 b2 ↔ b0 < a0 ∨ (a0 = b0 ∧ (b1 < a1 ∨ (a1 = b1 ∧ b2 < a2))) := by
  unfold lexC cmpC; (repeat' split) <;> omega
theorem lexC_three (a0 a1 a2 b0 b1 b2 : Int) : lexC a0 a1 a2 b0 b1 b2 = -1 ∨ lexC a0 a1 a2 b0 b1 b2 = 0 ∨ lexC a0 a1 a2 b0 b1 b2 = 1 := by
  unfold lexC cmpC; (repeat' split) <;> omega
theorem lexC_swap (a0 a1 a2 b0 b1 b2 : Int) : lexC b0 b1 b2 a0 a1 a2 = -lexC a0 a1 a2 b0 b1 b2 := by
  have h1 := lexC_neg a0 a1 a2 b0 b1 b2; have h2 := lexC_pos a0 a1 a2 b0 b1 b2
  have h3 := lexC_neg b0 b1 b2 a0 a1 a2; have h4 := lexC_pos b0 b1 b2 a0 a1 a2
  have h5 := lexC_three a0 a1 a2 b0 b1 b2; have h6 := lexC_three b0 b1 b2 a0 a1 a2
  omega
theorem lexC_zero (a0 a1 a2 b0 b1 b2 : Int) : lexC a0 a1 a2 b0 b1 b2 = 0 ↔ (a0 = b0 ∧ a1 = b1 ∧ a2 = b2) := by
  have h1 := lexC_neg a0 a1 a2 b0 b1 b2; have h2 := lexC_pos a0 a1 a2 b0 b1 b2
  omega
theorem lexC_le {a0 a1 a2 b0 b1 b2 c0 c1 c2 : Int} (h : lexC a0 a1 a2 b0 b1 b2 ≤ 0) (h' : lexC b0 b1 b2 c0 c1 c2 ≤ 0) : lexC a0 a1 a2 c0 c1 c2 ≤ 0 := by
  have h1 := lexC_pos a0 a1 a2 b0 b1 b2; have h2 := lexC_pos b0 b1 b2 c0 c1 c2; have h3 := lexC_pos a0 a1 a2 c0 c1 c2
  omega
theorem lexC_lt {a0 a1 a2 b0 b1 b2 c0 c1 c2 : Int} (h : lexC a0 a1 a2 b0 b1 b2 < 0) (h' : lexC b0 b1 b2 c0 c1 c2 ≤ 0) : lexC a0 a1 a2 c0 c1 c2 < 0 := by
  have h1 := lexC_neg a0 a1 a2 b0 b1 b2; have h2 := lexC_pos b0 b1 b2 c0 c1 c2; have h3 := lexC_neg a0 a1 a2 c0 c1 c2
  omega
theorem r192 : rightB 192 = true := by rfl
theorem dvd192 {m : Int} (h : rightB m = true) : 192 % m = 0 := by rcases (rightB_iff m).1 h with rfl | rfl | rfl | rfl <;> rfl
theorem opp_form {m x y z : Int} (h : formB m x y z = true) : formB m (-x % m) (-y % m) (-z % m) = true := by
  have hr := formB_right h
  have hp := right_pos hr
  have b := fun a => emod_bd a m hp.1
  simp [formB, hr, inB, b]
theorem opp_twice {m x : Int} (h0 : 0 ≤ x) (h1 : x < m) : (0 - -x % m) % m = x := by
  rw [Int.sub_emod, Int.emod_emod_of_dvd _ (Int.dvd_refl m), ← Int.sub_emod]
  have : (0 - -x) = x := by omega
  rw [this]; exact Int.emod_eq_of_lt h0 h1

set_option maxHeartbeats 1600000 in
set_option maxRecDepth 100000 in
theorem tot_nn (m x y z m' x' y' z' n u v s : Int) (w : World) (h1 : formB m x y z = true) (h2 : formB m' x' y' z' = true) (h3 : formB n u v s = true) (B C : Int) (ea : lexC (x * (192 / m)) (y * (192 / m)) (z * (192 / m)) (x' * (192 / m')) (y' * (192 / m')) (z' * (192 / m')) = -1) (eb : lexC (x' * (192 / m')) (y' * (192 / m')) (z' * (192 / m')) (u * (192 / n)) (v * (192 / n)) (s * (192 / n)) = B) (ec : lexC (x * (192 / m)) (y * (192 / m)) (z * (192 / m)) (u * (192 / n)) (v * (192 / n)) (s * (192 / n)) = C) (hB : B ≤ 0):
    Calls Try.prog 8 #[.agg #[.int .i64 m, .int .i64 x, .int .i64 y, .int .i64 z], .agg #[.int .i64 m', .int .i64 x', .int .i64 y', .int .i64 z'], .agg #[.int .i64 n, .int .i64 u, .int .i64 v, .int .i64 s]] w fun e w' => e = .returned (.bool true) ∧ Below w.heap.size w w' := by
  have H1 := Lib.hid h1; have H2 := Lib.hid h2; have H3 := Lib.hid h3
  have EA := Lib.hid ea; have EB := Lib.hid eb; have EC := Lib.hid ec
  have ED := Lib.hid ((lexC_swap (x * (192 / m)) (y * (192 / m)) (z * (192 / m)) (x' * (192 / m')) (y' * (192 / m')) (z' * (192 / m'))).trans (congrArg (fun q : Int => -q) ea))
  have b3 := lexC_three (x' * (192 / m')) (y' * (192 / m')) (z' * (192 / m')) (u * (192 / n)) (v * (192 / n)) (s * (192 / n))
  have c3 := lexC_three (x * (192 / m)) (y * (192 / m)) (z * (192 / m)) (u * (192 / n)) (v * (192 / n)) (s * (192 / n))
  rw [eb] at b3; rw [ec] at c3
  have B1 : -1 ≤ B := by omega
  have B2 : B ≤ 1 := by omega
  have C1 : -1 ≤ C := by omega
  have C2 : C ≤ 1 := by omega
  clear b3 c3
  have D1 := Lib.hid (dvd192 (formB_right h1)); have D2 := Lib.hid (dvd192 (formB_right h2))
  have O1 := Lib.hid (opp_form h1)
  have F := form_hm h1
  have O2 := Lib.hid (And.intro (opp_twice F.2.1.1 F.2.1.2) (And.intro (opp_twice F.2.2.1.1 F.2.2.1.2) (opp_twice F.2.2.2.1 F.2.2.2.2)))
  clear F
  have C3 : C < 0 := by have := lexC_lt (a0 := x * (192 / m)) (a1 := y * (192 / m)) (a2 := z * (192 / m)) (b0 := x' * (192 / m')) (b1 := y' * (192 / m')) (b2 := z' * (192 / m')) (c0 := u * (192 / n)) (c1 := v * (192 / n)) (c2 := s * (192 / n)) (by rw [ea]; omega) (by rw [eb]; exact hB); rw [ec] at this; exact this
  have Z : ((x * (192 / m)) == (x' * (192 / m')) && ((y * (192 / m)) == (y' * (192 / m')) && (z * (192 / m)) == (z' * (192 / m')))) = false := by
    cases hq : ((x * (192 / m)) == (x' * (192 / m')) && ((y * (192 / m)) == (y' * (192 / m')) && (z * (192 / m)) == (z' * (192 / m')))) with
    | false => rfl
    | true =>
      simp only [Bool.and_eq_true, beq_iff_eq] at hq
      have := (lexC_zero (x * (192 / m)) (y * (192 / m)) (z * (192 / m)) (x' * (192 / m')) (y' * (192 / m')) (z' * (192 / m'))).2 ⟨hq.1, hq.2.1, hq.2.2⟩
      rw [ea] at this; omega
  clear ea eb ec
  go_enter Try.func8, Try.ntmps8
  go_wp2_with fail
  refine (awake_any _).mono ?_
  rintro e w1 ⟨rfl, hb1⟩
  obtain ⟨hc1, hf1⟩ := bcell hb1
  have hz1 := hb1.size
  try simp at hz1
  have z1_0 : w.heap.size < w1.heap.size := by omega
  have z1_1 : w.heap.size + 1 < w1.heap.size := by omega
  have z1_2 : w.heap.size + 1 + 1 < w1.heap.size := by omega
  go_wp2_with fail
  refine (to_v (ord_v EA.out) (order_t _ _ _ _ _ _ _ _ _ H1.out H2.out)).mono ?_
  rintro e w2 ⟨rfl, hb2⟩
  obtain ⟨hc2, hf2⟩ := bcell hb2
  have hz2 := hb2.size
  try simp at hz2
  have z2_0 : w.heap.size < w2.heap.size := by omega
  have z2_1 : w.heap.size + 1 < w2.heap.size := by omega
  have z2_2 : w.heap.size + 1 + 1 < w2.heap.size := by omega
  go_wp2_with fail
  refine (to_v (ord_v EB.out) (order_t _ _ _ _ _ _ _ _ _ H2.out H3.out)).mono ?_
  rintro e w3 ⟨rfl, hb3⟩
  obtain ⟨hc3, hf3⟩ := bcell hb3
  have hz3 := hb3.size
  try simp at hz3
  have z3_0 : w.heap.size < w3.heap.size := by omega
  have z3_1 : w.heap.size + 1 < w3.heap.size := by omega
  have z3_2 : w.heap.size + 1 + 1 < w3.heap.size := by omega
  go_wp2_with fail
  refine (to_v (ord_v EC.out) (order_t _ _ _ _ _ _ _ _ _ H1.out H3.out)).mono ?_
  rintro e w4 ⟨rfl, hb4⟩
  obtain ⟨hc4, hf4⟩ := bcell hb4
  have hz4 := hb4.size
  try simp at hz4
  have z4_0 : w.heap.size < w4.heap.size := by omega
  have z4_1 : w.heap.size + 1 < w4.heap.size := by omega
  have z4_2 : w.heap.size + 1 + 1 < w4.heap.size := by omega
  go_wp2_with fail
  refine (to_v (ord_v ED.out) (order_t _ _ _ _ _ _ _ _ _ H2.out H1.out)).mono ?_
  rintro e w5 ⟨rfl, hb5⟩
  obtain ⟨hc5, hf5⟩ := bcell hb5
  have hz5 := hb5.size
  try simp at hz5
  have z5_0 : w.heap.size < w5.heap.size := by omega
  have z5_1 : w.heap.size + 1 < w5.heap.size := by omega
  have z5_2 : w.heap.size + 1 + 1 < w5.heap.size := by omega
  go_wp2_with fail
  refine (form_any _ _ _ _ _).mono ?_
  rintro e w6 ⟨rfl, hb6⟩
  obtain ⟨hc6, hf6⟩ := bcell hb6
  have hz6 := hb6.size
  try simp at hz6
  have z6_0 : w.heap.size < w6.heap.size := by omega
  have z6_1 : w.heap.size + 1 < w6.heap.size := by omega
  have z6_2 : w.heap.size + 1 + 1 < w6.heap.size := by omega
  go_wp2_with fail
  refine (form_any _ _ _ _ _).mono ?_
  rintro e w7 ⟨rfl, hb7⟩
  obtain ⟨hc7, hf7⟩ := bcell hb7
  have hz7 := hb7.size
  try simp at hz7
  have z7_0 : w.heap.size < w7.heap.size := by omega
  have z7_1 : w.heap.size + 1 < w7.heap.size := by omega
  have z7_2 : w.heap.size + 1 + 1 < w7.heap.size := by omega
  go_wp2_with fail
  refine (form_any _ _ _ _ _).mono ?_
  rintro e w8 ⟨rfl, hb8⟩
  obtain ⟨hc8, hf8⟩ := bcell hb8
  have hz8 := hb8.size
  try simp at hz8
  have z8_0 : w.heap.size < w8.heap.size := by omega
  have z8_1 : w.heap.size + 1 < w8.heap.size := by omega
  have z8_2 : w.heap.size + 1 + 1 < w8.heap.size := by omega
  go_wp2_with fail
  refine (finer_t _ _ _ _ _ _ r192 H1.out D1.out).mono ?_
  rintro e w9 ⟨rfl, hb9⟩
  obtain ⟨hc9, hf9⟩ := bcell hb9
  have hz9 := hb9.size
  try simp at hz9
  have z9_0 : w.heap.size < w9.heap.size := by omega
  have z9_1 : w.heap.size + 1 < w9.heap.size := by omega
  have z9_2 : w.heap.size + 1 + 1 < w9.heap.size := by omega
  go_wp2_with fail
  refine (finer_t _ _ _ _ _ _ r192 H2.out D2.out).mono ?_
  rintro e w10 ⟨rfl, hb10⟩
  obtain ⟨hc10, hf10⟩ := bcell hb10
  have hz10 := hb10.size
  try simp at hz10
  have z10_0 : w.heap.size < w10.heap.size := by omega
  have z10_1 : w.heap.size + 1 < w10.heap.size := by omega
  have z10_2 : w.heap.size + 1 + 1 < w10.heap.size := by omega
  have z10_3 : w9.heap.size < w10.heap.size := by omega
  go_wp2_with fail
  refine (opp_t _ _ _ _ _ H1.out).mono ?_
  rintro e w11 ⟨rfl, hb11⟩
  obtain ⟨hc11, hf11⟩ := bcell hb11
  have hz11 := hb11.size
  try simp at hz11
  have z11_0 : w.heap.size < w11.heap.size := by omega
  have z11_1 : w.heap.size + 1 < w11.heap.size := by omega
  have z11_2 : w.heap.size + 1 + 1 < w11.heap.size := by omega
  have z11_3 : w9.heap.size < w11.heap.size := by omega
  have z11_4 : w10.heap.size < w11.heap.size := by omega
  go_wp2_with fail
  refine (to_v (pt_v O2.out.1 O2.out.2.1 O2.out.2.2) (opp_t _ _ _ _ _ O1.out)).mono ?_
  rintro e w12 ⟨rfl, hb12⟩
  obtain ⟨hc12, hf12⟩ := bcell hb12
  have hz12 := hb12.size
  try simp at hz12
  have z12_0 : w.heap.size < w12.heap.size := by omega
  have z12_1 : w.heap.size + 1 < w12.heap.size := by omega
  have z12_2 : w.heap.size + 1 + 1 < w12.heap.size := by omega
  have z12_3 : w9.heap.size < w12.heap.size := by omega
  have z12_4 : w10.heap.size < w12.heap.size := by omega
  have z12_5 : w11.heap.size < w12.heap.size := by omega
  go_wp2
  go_ret
  refine ⟨rfl, ?_⟩
  repeat (first | exact Below.refl _ _ | assumption | exact Below.alloc (Below.refl _ _) (Nat.le_refl _) _ | refine Below.setCell ?_ (by first | (simp; done) | (simp; omega) | omega) _ | refine below_drewN ?_ _ | refine Below.alloc ?_ (by first | (simp; done) | (simp; omega) | omega) _ | refine Below.trans ?_ (Below.mono (by assumption) (by first | (simp; done) | (simp; omega) | omega)))

set_option maxHeartbeats 1600000 in
set_option maxRecDepth 100000 in
theorem tot_np (m x y z m' x' y' z' n u v s : Int) (w : World) (h1 : formB m x y z = true) (h2 : formB m' x' y' z' = true) (h3 : formB n u v s = true) (B C : Int) (ea : lexC (x * (192 / m)) (y * (192 / m)) (z * (192 / m)) (x' * (192 / m')) (y' * (192 / m')) (z' * (192 / m')) = -1) (eb : lexC (x' * (192 / m')) (y' * (192 / m')) (z' * (192 / m')) (u * (192 / n)) (v * (192 / n)) (s * (192 / n)) = B) (ec : lexC (x * (192 / m)) (y * (192 / m)) (z * (192 / m)) (u * (192 / n)) (v * (192 / n)) (s * (192 / n)) = C) (hB : 0 < B):
    Calls Try.prog 8 #[.agg #[.int .i64 m, .int .i64 x, .int .i64 y, .int .i64 z], .agg #[.int .i64 m', .int .i64 x', .int .i64 y', .int .i64 z'], .agg #[.int .i64 n, .int .i64 u, .int .i64 v, .int .i64 s]] w fun e w' => e = .returned (.bool true) ∧ Below w.heap.size w w' := by
  have H1 := Lib.hid h1; have H2 := Lib.hid h2; have H3 := Lib.hid h3
  have EA := Lib.hid ea; have EB := Lib.hid eb; have EC := Lib.hid ec
  have ED := Lib.hid ((lexC_swap (x * (192 / m)) (y * (192 / m)) (z * (192 / m)) (x' * (192 / m')) (y' * (192 / m')) (z' * (192 / m'))).trans (congrArg (fun q : Int => -q) ea))
  have b3 := lexC_three (x' * (192 / m')) (y' * (192 / m')) (z' * (192 / m')) (u * (192 / n)) (v * (192 / n)) (s * (192 / n))
  have c3 := lexC_three (x * (192 / m)) (y * (192 / m)) (z * (192 / m)) (u * (192 / n)) (v * (192 / n)) (s * (192 / n))
  rw [eb] at b3; rw [ec] at c3
  have B1 : -1 ≤ B := by omega
  have B2 : B ≤ 1 := by omega
  have C1 : -1 ≤ C := by omega
  have C2 : C ≤ 1 := by omega
  clear b3 c3
  have D1 := Lib.hid (dvd192 (formB_right h1)); have D2 := Lib.hid (dvd192 (formB_right h2))
  have O1 := Lib.hid (opp_form h1)
  have F := form_hm h1
  have O2 := Lib.hid (And.intro (opp_twice F.2.1.1 F.2.1.2) (And.intro (opp_twice F.2.2.1.1 F.2.2.1.2) (opp_twice F.2.2.2.1 F.2.2.2.2)))
  clear F
  have Z : ((x * (192 / m)) == (x' * (192 / m')) && ((y * (192 / m)) == (y' * (192 / m')) && (z * (192 / m)) == (z' * (192 / m')))) = false := by
    cases hq : ((x * (192 / m)) == (x' * (192 / m')) && ((y * (192 / m)) == (y' * (192 / m')) && (z * (192 / m)) == (z' * (192 / m')))) with
    | false => rfl
    | true =>
      simp only [Bool.and_eq_true, beq_iff_eq] at hq
      have := (lexC_zero (x * (192 / m)) (y * (192 / m)) (z * (192 / m)) (x' * (192 / m')) (y' * (192 / m')) (z' * (192 / m'))).2 ⟨hq.1, hq.2.1, hq.2.2⟩
      rw [ea] at this; omega
  clear ea eb ec
  go_enter Try.func8, Try.ntmps8
  go_wp2_with fail
  refine (awake_any _).mono ?_
  rintro e w1 ⟨rfl, hb1⟩
  obtain ⟨hc1, hf1⟩ := bcell hb1
  have hz1 := hb1.size
  try simp at hz1
  have z1_0 : w.heap.size < w1.heap.size := by omega
  have z1_1 : w.heap.size + 1 < w1.heap.size := by omega
  have z1_2 : w.heap.size + 1 + 1 < w1.heap.size := by omega
  go_wp2_with fail
  refine (to_v (ord_v EA.out) (order_t _ _ _ _ _ _ _ _ _ H1.out H2.out)).mono ?_
  rintro e w2 ⟨rfl, hb2⟩
  obtain ⟨hc2, hf2⟩ := bcell hb2
  have hz2 := hb2.size
  try simp at hz2
  have z2_0 : w.heap.size < w2.heap.size := by omega
  have z2_1 : w.heap.size + 1 < w2.heap.size := by omega
  have z2_2 : w.heap.size + 1 + 1 < w2.heap.size := by omega
  go_wp2_with fail
  refine (to_v (ord_v EB.out) (order_t _ _ _ _ _ _ _ _ _ H2.out H3.out)).mono ?_
  rintro e w3 ⟨rfl, hb3⟩
  obtain ⟨hc3, hf3⟩ := bcell hb3
  have hz3 := hb3.size
  try simp at hz3
  have z3_0 : w.heap.size < w3.heap.size := by omega
  have z3_1 : w.heap.size + 1 < w3.heap.size := by omega
  have z3_2 : w.heap.size + 1 + 1 < w3.heap.size := by omega
  go_wp2_with fail
  refine (to_v (ord_v EC.out) (order_t _ _ _ _ _ _ _ _ _ H1.out H3.out)).mono ?_
  rintro e w4 ⟨rfl, hb4⟩
  obtain ⟨hc4, hf4⟩ := bcell hb4
  have hz4 := hb4.size
  try simp at hz4
  have z4_0 : w.heap.size < w4.heap.size := by omega
  have z4_1 : w.heap.size + 1 < w4.heap.size := by omega
  have z4_2 : w.heap.size + 1 + 1 < w4.heap.size := by omega
  go_wp2_with fail
  refine (to_v (ord_v ED.out) (order_t _ _ _ _ _ _ _ _ _ H2.out H1.out)).mono ?_
  rintro e w5 ⟨rfl, hb5⟩
  obtain ⟨hc5, hf5⟩ := bcell hb5
  have hz5 := hb5.size
  try simp at hz5
  have z5_0 : w.heap.size < w5.heap.size := by omega
  have z5_1 : w.heap.size + 1 < w5.heap.size := by omega
  have z5_2 : w.heap.size + 1 + 1 < w5.heap.size := by omega
  go_wp2_with fail
  refine (form_any _ _ _ _ _).mono ?_
  rintro e w6 ⟨rfl, hb6⟩
  obtain ⟨hc6, hf6⟩ := bcell hb6
  have hz6 := hb6.size
  try simp at hz6
  have z6_0 : w.heap.size < w6.heap.size := by omega
  have z6_1 : w.heap.size + 1 < w6.heap.size := by omega
  have z6_2 : w.heap.size + 1 + 1 < w6.heap.size := by omega
  go_wp2_with fail
  refine (form_any _ _ _ _ _).mono ?_
  rintro e w7 ⟨rfl, hb7⟩
  obtain ⟨hc7, hf7⟩ := bcell hb7
  have hz7 := hb7.size
  try simp at hz7
  have z7_0 : w.heap.size < w7.heap.size := by omega
  have z7_1 : w.heap.size + 1 < w7.heap.size := by omega
  have z7_2 : w.heap.size + 1 + 1 < w7.heap.size := by omega
  go_wp2_with fail
  refine (form_any _ _ _ _ _).mono ?_
  rintro e w8 ⟨rfl, hb8⟩
  obtain ⟨hc8, hf8⟩ := bcell hb8
  have hz8 := hb8.size
  try simp at hz8
  have z8_0 : w.heap.size < w8.heap.size := by omega
  have z8_1 : w.heap.size + 1 < w8.heap.size := by omega
  have z8_2 : w.heap.size + 1 + 1 < w8.heap.size := by omega
  go_wp2_with fail
  refine (finer_t _ _ _ _ _ _ r192 H1.out D1.out).mono ?_
  rintro e w9 ⟨rfl, hb9⟩
  obtain ⟨hc9, hf9⟩ := bcell hb9
  have hz9 := hb9.size
  try simp at hz9
  have z9_0 : w.heap.size < w9.heap.size := by omega
  have z9_1 : w.heap.size + 1 < w9.heap.size := by omega
  have z9_2 : w.heap.size + 1 + 1 < w9.heap.size := by omega
  go_wp2_with fail
  refine (finer_t _ _ _ _ _ _ r192 H2.out D2.out).mono ?_
  rintro e w10 ⟨rfl, hb10⟩
  obtain ⟨hc10, hf10⟩ := bcell hb10
  have hz10 := hb10.size
  try simp at hz10
  have z10_0 : w.heap.size < w10.heap.size := by omega
  have z10_1 : w.heap.size + 1 < w10.heap.size := by omega
  have z10_2 : w.heap.size + 1 + 1 < w10.heap.size := by omega
  have z10_3 : w9.heap.size < w10.heap.size := by omega
  go_wp2_with fail
  refine (opp_t _ _ _ _ _ H1.out).mono ?_
  rintro e w11 ⟨rfl, hb11⟩
  obtain ⟨hc11, hf11⟩ := bcell hb11
  have hz11 := hb11.size
  try simp at hz11
  have z11_0 : w.heap.size < w11.heap.size := by omega
  have z11_1 : w.heap.size + 1 < w11.heap.size := by omega
  have z11_2 : w.heap.size + 1 + 1 < w11.heap.size := by omega
  have z11_3 : w9.heap.size < w11.heap.size := by omega
  have z11_4 : w10.heap.size < w11.heap.size := by omega
  go_wp2_with fail
  refine (to_v (pt_v O2.out.1 O2.out.2.1 O2.out.2.2) (opp_t _ _ _ _ _ O1.out)).mono ?_
  rintro e w12 ⟨rfl, hb12⟩
  obtain ⟨hc12, hf12⟩ := bcell hb12
  have hz12 := hb12.size
  try simp at hz12
  have z12_0 : w.heap.size < w12.heap.size := by omega
  have z12_1 : w.heap.size + 1 < w12.heap.size := by omega
  have z12_2 : w.heap.size + 1 + 1 < w12.heap.size := by omega
  have z12_3 : w9.heap.size < w12.heap.size := by omega
  have z12_4 : w10.heap.size < w12.heap.size := by omega
  have z12_5 : w11.heap.size < w12.heap.size := by omega
  go_wp2
  go_ret
  refine ⟨rfl, ?_⟩
  repeat (first | exact Below.refl _ _ | assumption | exact Below.alloc (Below.refl _ _) (Nat.le_refl _) _ | refine Below.setCell ?_ (by first | (simp; done) | (simp; omega) | omega) _ | refine below_drewN ?_ _ | refine Below.alloc ?_ (by first | (simp; done) | (simp; omega) | omega) _ | refine Below.trans ?_ (Below.mono (by assumption) (by first | (simp; done) | (simp; omega) | omega)))

set_option maxHeartbeats 1600000 in
set_option maxRecDepth 100000 in
theorem tot_zn (m x y z m' x' y' z' n u v s : Int) (w : World) (h1 : formB m x y z = true) (h2 : formB m' x' y' z' = true) (h3 : formB n u v s = true) (B C : Int) (ea : lexC (x * (192 / m)) (y * (192 / m)) (z * (192 / m)) (x' * (192 / m')) (y' * (192 / m')) (z' * (192 / m')) = 0) (eb : lexC (x' * (192 / m')) (y' * (192 / m')) (z' * (192 / m')) (u * (192 / n)) (v * (192 / n)) (s * (192 / n)) = B) (ec : lexC (x * (192 / m)) (y * (192 / m)) (z * (192 / m)) (u * (192 / n)) (v * (192 / n)) (s * (192 / n)) = C) (hB : B ≤ 0):
    Calls Try.prog 8 #[.agg #[.int .i64 m, .int .i64 x, .int .i64 y, .int .i64 z], .agg #[.int .i64 m', .int .i64 x', .int .i64 y', .int .i64 z'], .agg #[.int .i64 n, .int .i64 u, .int .i64 v, .int .i64 s]] w fun e w' => e = .returned (.bool true) ∧ Below w.heap.size w w' := by
  have H1 := Lib.hid h1; have H2 := Lib.hid h2; have H3 := Lib.hid h3
  have EA := Lib.hid ea; have EB := Lib.hid eb; have EC := Lib.hid ec
  have ED := Lib.hid ((lexC_swap (x * (192 / m)) (y * (192 / m)) (z * (192 / m)) (x' * (192 / m')) (y' * (192 / m')) (z' * (192 / m'))).trans (congrArg (fun q : Int => -q) ea))
  have b3 := lexC_three (x' * (192 / m')) (y' * (192 / m')) (z' * (192 / m')) (u * (192 / n)) (v * (192 / n)) (s * (192 / n))
  have c3 := lexC_three (x * (192 / m)) (y * (192 / m)) (z * (192 / m)) (u * (192 / n)) (v * (192 / n)) (s * (192 / n))
  rw [eb] at b3; rw [ec] at c3
  have B1 : -1 ≤ B := by omega
  have B2 : B ≤ 1 := by omega
  have C1 : -1 ≤ C := by omega
  have C2 : C ≤ 1 := by omega
  clear b3 c3
  have D1 := Lib.hid (dvd192 (formB_right h1)); have D2 := Lib.hid (dvd192 (formB_right h2))
  have O1 := Lib.hid (opp_form h1)
  have F := form_hm h1
  have O2 := Lib.hid (And.intro (opp_twice F.2.1.1 F.2.1.2) (And.intro (opp_twice F.2.2.1.1 F.2.2.1.2) (opp_twice F.2.2.2.1 F.2.2.2.2)))
  clear F
  have C3 : C ≤ 0 := by have := lexC_le (a0 := x * (192 / m)) (a1 := y * (192 / m)) (a2 := z * (192 / m)) (b0 := x' * (192 / m')) (b1 := y' * (192 / m')) (b2 := z' * (192 / m')) (c0 := u * (192 / n)) (c1 := v * (192 / n)) (c2 := s * (192 / n)) (by rw [ea]; omega) (by rw [eb]; exact hB); rw [ec] at this; exact this
  have Z := Lib.hid ((lexC_zero (x * (192 / m)) (y * (192 / m)) (z * (192 / m)) (x' * (192 / m')) (y' * (192 / m')) (z' * (192 / m'))).1 ea)
  clear ea eb ec
  go_enter Try.func8, Try.ntmps8
  go_wp2_with fail
  refine (awake_any _).mono ?_
  rintro e w1 ⟨rfl, hb1⟩
  obtain ⟨hc1, hf1⟩ := bcell hb1
  have hz1 := hb1.size
  try simp at hz1
  have z1_0 : w.heap.size < w1.heap.size := by omega
  have z1_1 : w.heap.size + 1 < w1.heap.size := by omega
  have z1_2 : w.heap.size + 1 + 1 < w1.heap.size := by omega
  go_wp2_with fail
  refine (to_v (ord_v EA.out) (order_t _ _ _ _ _ _ _ _ _ H1.out H2.out)).mono ?_
  rintro e w2 ⟨rfl, hb2⟩
  obtain ⟨hc2, hf2⟩ := bcell hb2
  have hz2 := hb2.size
  try simp at hz2
  have z2_0 : w.heap.size < w2.heap.size := by omega
  have z2_1 : w.heap.size + 1 < w2.heap.size := by omega
  have z2_2 : w.heap.size + 1 + 1 < w2.heap.size := by omega
  go_wp2_with fail
  refine (to_v (ord_v EB.out) (order_t _ _ _ _ _ _ _ _ _ H2.out H3.out)).mono ?_
  rintro e w3 ⟨rfl, hb3⟩
  obtain ⟨hc3, hf3⟩ := bcell hb3
  have hz3 := hb3.size
  try simp at hz3
  have z3_0 : w.heap.size < w3.heap.size := by omega
  have z3_1 : w.heap.size + 1 < w3.heap.size := by omega
  have z3_2 : w.heap.size + 1 + 1 < w3.heap.size := by omega
  go_wp2_with fail
  refine (to_v (ord_v EC.out) (order_t _ _ _ _ _ _ _ _ _ H1.out H3.out)).mono ?_
  rintro e w4 ⟨rfl, hb4⟩
  obtain ⟨hc4, hf4⟩ := bcell hb4
  have hz4 := hb4.size
  try simp at hz4
  have z4_0 : w.heap.size < w4.heap.size := by omega
  have z4_1 : w.heap.size + 1 < w4.heap.size := by omega
  have z4_2 : w.heap.size + 1 + 1 < w4.heap.size := by omega
  go_wp2_with fail
  refine (to_v (ord_v ED.out) (order_t _ _ _ _ _ _ _ _ _ H2.out H1.out)).mono ?_
  rintro e w5 ⟨rfl, hb5⟩
  obtain ⟨hc5, hf5⟩ := bcell hb5
  have hz5 := hb5.size
  try simp at hz5
  have z5_0 : w.heap.size < w5.heap.size := by omega
  have z5_1 : w.heap.size + 1 < w5.heap.size := by omega
  have z5_2 : w.heap.size + 1 + 1 < w5.heap.size := by omega
  go_wp2_with fail
  refine (form_any _ _ _ _ _).mono ?_
  rintro e w6 ⟨rfl, hb6⟩
  obtain ⟨hc6, hf6⟩ := bcell hb6
  have hz6 := hb6.size
  try simp at hz6
  have z6_0 : w.heap.size < w6.heap.size := by omega
  have z6_1 : w.heap.size + 1 < w6.heap.size := by omega
  have z6_2 : w.heap.size + 1 + 1 < w6.heap.size := by omega
  go_wp2_with fail
  refine (form_any _ _ _ _ _).mono ?_
  rintro e w7 ⟨rfl, hb7⟩
  obtain ⟨hc7, hf7⟩ := bcell hb7
  have hz7 := hb7.size
  try simp at hz7
  have z7_0 : w.heap.size < w7.heap.size := by omega
  have z7_1 : w.heap.size + 1 < w7.heap.size := by omega
  have z7_2 : w.heap.size + 1 + 1 < w7.heap.size := by omega
  go_wp2_with fail
  refine (form_any _ _ _ _ _).mono ?_
  rintro e w8 ⟨rfl, hb8⟩
  obtain ⟨hc8, hf8⟩ := bcell hb8
  have hz8 := hb8.size
  try simp at hz8
  have z8_0 : w.heap.size < w8.heap.size := by omega
  have z8_1 : w.heap.size + 1 < w8.heap.size := by omega
  have z8_2 : w.heap.size + 1 + 1 < w8.heap.size := by omega
  go_wp2_with fail
  refine (finer_t _ _ _ _ _ _ r192 H1.out D1.out).mono ?_
  rintro e w9 ⟨rfl, hb9⟩
  obtain ⟨hc9, hf9⟩ := bcell hb9
  have hz9 := hb9.size
  try simp at hz9
  have z9_0 : w.heap.size < w9.heap.size := by omega
  have z9_1 : w.heap.size + 1 < w9.heap.size := by omega
  have z9_2 : w.heap.size + 1 + 1 < w9.heap.size := by omega
  go_wp2_with fail
  refine (to_v (pt_v Z.out.1.symm Z.out.2.1.symm Z.out.2.2.symm) (finer_t _ _ _ _ _ _ r192 H2.out D2.out)).mono ?_
  rintro e w10 ⟨rfl, hb10⟩
  obtain ⟨hc10, hf10⟩ := bcell hb10
  have hz10 := hb10.size
  try simp at hz10
  have z10_0 : w.heap.size < w10.heap.size := by omega
  have z10_1 : w.heap.size + 1 < w10.heap.size := by omega
  have z10_2 : w.heap.size + 1 + 1 < w10.heap.size := by omega
  have z10_3 : w9.heap.size < w10.heap.size := by omega
  go_wp2_with fail
  refine (opp_t _ _ _ _ _ H1.out).mono ?_
  rintro e w11 ⟨rfl, hb11⟩
  obtain ⟨hc11, hf11⟩ := bcell hb11
  have hz11 := hb11.size
  try simp at hz11
  have z11_0 : w.heap.size < w11.heap.size := by omega
  have z11_1 : w.heap.size + 1 < w11.heap.size := by omega
  have z11_2 : w.heap.size + 1 + 1 < w11.heap.size := by omega
  have z11_3 : w9.heap.size < w11.heap.size := by omega
  have z11_4 : w10.heap.size < w11.heap.size := by omega
  go_wp2_with fail
  refine (to_v (pt_v O2.out.1 O2.out.2.1 O2.out.2.2) (opp_t _ _ _ _ _ O1.out)).mono ?_
  rintro e w12 ⟨rfl, hb12⟩
  obtain ⟨hc12, hf12⟩ := bcell hb12
  have hz12 := hb12.size
  try simp at hz12
  have z12_0 : w.heap.size < w12.heap.size := by omega
  have z12_1 : w.heap.size + 1 < w12.heap.size := by omega
  have z12_2 : w.heap.size + 1 + 1 < w12.heap.size := by omega
  have z12_3 : w9.heap.size < w12.heap.size := by omega
  have z12_4 : w10.heap.size < w12.heap.size := by omega
  have z12_5 : w11.heap.size < w12.heap.size := by omega
  go_wp2
  go_ret
  refine ⟨rfl, ?_⟩
  repeat (first | exact Below.refl _ _ | assumption | exact Below.alloc (Below.refl _ _) (Nat.le_refl _) _ | refine Below.setCell ?_ (by first | (simp; done) | (simp; omega) | omega) _ | refine below_drewN ?_ _ | refine Below.alloc ?_ (by first | (simp; done) | (simp; omega) | omega) _ | refine Below.trans ?_ (Below.mono (by assumption) (by first | (simp; done) | (simp; omega) | omega)))

set_option maxHeartbeats 1600000 in
set_option maxRecDepth 100000 in
theorem tot_zp (m x y z m' x' y' z' n u v s : Int) (w : World) (h1 : formB m x y z = true) (h2 : formB m' x' y' z' = true) (h3 : formB n u v s = true) (B C : Int) (ea : lexC (x * (192 / m)) (y * (192 / m)) (z * (192 / m)) (x' * (192 / m')) (y' * (192 / m')) (z' * (192 / m')) = 0) (eb : lexC (x' * (192 / m')) (y' * (192 / m')) (z' * (192 / m')) (u * (192 / n)) (v * (192 / n)) (s * (192 / n)) = B) (ec : lexC (x * (192 / m)) (y * (192 / m)) (z * (192 / m)) (u * (192 / n)) (v * (192 / n)) (s * (192 / n)) = C) (hB : 0 < B):
    Calls Try.prog 8 #[.agg #[.int .i64 m, .int .i64 x, .int .i64 y, .int .i64 z], .agg #[.int .i64 m', .int .i64 x', .int .i64 y', .int .i64 z'], .agg #[.int .i64 n, .int .i64 u, .int .i64 v, .int .i64 s]] w fun e w' => e = .returned (.bool true) ∧ Below w.heap.size w w' := by
  have H1 := Lib.hid h1; have H2 := Lib.hid h2; have H3 := Lib.hid h3
  have EA := Lib.hid ea; have EB := Lib.hid eb; have EC := Lib.hid ec
  have ED := Lib.hid ((lexC_swap (x * (192 / m)) (y * (192 / m)) (z * (192 / m)) (x' * (192 / m')) (y' * (192 / m')) (z' * (192 / m'))).trans (congrArg (fun q : Int => -q) ea))
  have b3 := lexC_three (x' * (192 / m')) (y' * (192 / m')) (z' * (192 / m')) (u * (192 / n)) (v * (192 / n)) (s * (192 / n))
  have c3 := lexC_three (x * (192 / m)) (y * (192 / m)) (z * (192 / m)) (u * (192 / n)) (v * (192 / n)) (s * (192 / n))
  rw [eb] at b3; rw [ec] at c3
  have B1 : -1 ≤ B := by omega
  have B2 : B ≤ 1 := by omega
  have C1 : -1 ≤ C := by omega
  have C2 : C ≤ 1 := by omega
  clear b3 c3
  have D1 := Lib.hid (dvd192 (formB_right h1)); have D2 := Lib.hid (dvd192 (formB_right h2))
  have O1 := Lib.hid (opp_form h1)
  have F := form_hm h1
  have O2 := Lib.hid (And.intro (opp_twice F.2.1.1 F.2.1.2) (And.intro (opp_twice F.2.2.1.1 F.2.2.1.2) (opp_twice F.2.2.2.1 F.2.2.2.2)))
  clear F
  have Z := Lib.hid ((lexC_zero (x * (192 / m)) (y * (192 / m)) (z * (192 / m)) (x' * (192 / m')) (y' * (192 / m')) (z' * (192 / m'))).1 ea)
  clear ea eb ec
  go_enter Try.func8, Try.ntmps8
  go_wp2_with fail
  refine (awake_any _).mono ?_
  rintro e w1 ⟨rfl, hb1⟩
  obtain ⟨hc1, hf1⟩ := bcell hb1
  have hz1 := hb1.size
  try simp at hz1
  have z1_0 : w.heap.size < w1.heap.size := by omega
  have z1_1 : w.heap.size + 1 < w1.heap.size := by omega
  have z1_2 : w.heap.size + 1 + 1 < w1.heap.size := by omega
  go_wp2_with fail
  refine (to_v (ord_v EA.out) (order_t _ _ _ _ _ _ _ _ _ H1.out H2.out)).mono ?_
  rintro e w2 ⟨rfl, hb2⟩
  obtain ⟨hc2, hf2⟩ := bcell hb2
  have hz2 := hb2.size
  try simp at hz2
  have z2_0 : w.heap.size < w2.heap.size := by omega
  have z2_1 : w.heap.size + 1 < w2.heap.size := by omega
  have z2_2 : w.heap.size + 1 + 1 < w2.heap.size := by omega
  go_wp2_with fail
  refine (to_v (ord_v EB.out) (order_t _ _ _ _ _ _ _ _ _ H2.out H3.out)).mono ?_
  rintro e w3 ⟨rfl, hb3⟩
  obtain ⟨hc3, hf3⟩ := bcell hb3
  have hz3 := hb3.size
  try simp at hz3
  have z3_0 : w.heap.size < w3.heap.size := by omega
  have z3_1 : w.heap.size + 1 < w3.heap.size := by omega
  have z3_2 : w.heap.size + 1 + 1 < w3.heap.size := by omega
  go_wp2_with fail
  refine (to_v (ord_v EC.out) (order_t _ _ _ _ _ _ _ _ _ H1.out H3.out)).mono ?_
  rintro e w4 ⟨rfl, hb4⟩
  obtain ⟨hc4, hf4⟩ := bcell hb4
  have hz4 := hb4.size
  try simp at hz4
  have z4_0 : w.heap.size < w4.heap.size := by omega
  have z4_1 : w.heap.size + 1 < w4.heap.size := by omega
  have z4_2 : w.heap.size + 1 + 1 < w4.heap.size := by omega
  go_wp2_with fail
  refine (to_v (ord_v ED.out) (order_t _ _ _ _ _ _ _ _ _ H2.out H1.out)).mono ?_
  rintro e w5 ⟨rfl, hb5⟩
  obtain ⟨hc5, hf5⟩ := bcell hb5
  have hz5 := hb5.size
  try simp at hz5
  have z5_0 : w.heap.size < w5.heap.size := by omega
  have z5_1 : w.heap.size + 1 < w5.heap.size := by omega
  have z5_2 : w.heap.size + 1 + 1 < w5.heap.size := by omega
  go_wp2_with fail
  refine (form_any _ _ _ _ _).mono ?_
  rintro e w6 ⟨rfl, hb6⟩
  obtain ⟨hc6, hf6⟩ := bcell hb6
  have hz6 := hb6.size
  try simp at hz6
  have z6_0 : w.heap.size < w6.heap.size := by omega
  have z6_1 : w.heap.size + 1 < w6.heap.size := by omega
  have z6_2 : w.heap.size + 1 + 1 < w6.heap.size := by omega
  go_wp2_with fail
  refine (form_any _ _ _ _ _).mono ?_
  rintro e w7 ⟨rfl, hb7⟩
  obtain ⟨hc7, hf7⟩ := bcell hb7
  have hz7 := hb7.size
  try simp at hz7
  have z7_0 : w.heap.size < w7.heap.size := by omega
  have z7_1 : w.heap.size + 1 < w7.heap.size := by omega
  have z7_2 : w.heap.size + 1 + 1 < w7.heap.size := by omega
  go_wp2_with fail
  refine (form_any _ _ _ _ _).mono ?_
  rintro e w8 ⟨rfl, hb8⟩
  obtain ⟨hc8, hf8⟩ := bcell hb8
  have hz8 := hb8.size
  try simp at hz8
  have z8_0 : w.heap.size < w8.heap.size := by omega
  have z8_1 : w.heap.size + 1 < w8.heap.size := by omega
  have z8_2 : w.heap.size + 1 + 1 < w8.heap.size := by omega
  go_wp2_with fail
  refine (finer_t _ _ _ _ _ _ r192 H1.out D1.out).mono ?_
  rintro e w9 ⟨rfl, hb9⟩
  obtain ⟨hc9, hf9⟩ := bcell hb9
  have hz9 := hb9.size
  try simp at hz9
  have z9_0 : w.heap.size < w9.heap.size := by omega
  have z9_1 : w.heap.size + 1 < w9.heap.size := by omega
  have z9_2 : w.heap.size + 1 + 1 < w9.heap.size := by omega
  go_wp2_with fail
  refine (to_v (pt_v Z.out.1.symm Z.out.2.1.symm Z.out.2.2.symm) (finer_t _ _ _ _ _ _ r192 H2.out D2.out)).mono ?_
  rintro e w10 ⟨rfl, hb10⟩
  obtain ⟨hc10, hf10⟩ := bcell hb10
  have hz10 := hb10.size
  try simp at hz10
  have z10_0 : w.heap.size < w10.heap.size := by omega
  have z10_1 : w.heap.size + 1 < w10.heap.size := by omega
  have z10_2 : w.heap.size + 1 + 1 < w10.heap.size := by omega
  have z10_3 : w9.heap.size < w10.heap.size := by omega
  go_wp2_with fail
  refine (opp_t _ _ _ _ _ H1.out).mono ?_
  rintro e w11 ⟨rfl, hb11⟩
  obtain ⟨hc11, hf11⟩ := bcell hb11
  have hz11 := hb11.size
  try simp at hz11
  have z11_0 : w.heap.size < w11.heap.size := by omega
  have z11_1 : w.heap.size + 1 < w11.heap.size := by omega
  have z11_2 : w.heap.size + 1 + 1 < w11.heap.size := by omega
  have z11_3 : w9.heap.size < w11.heap.size := by omega
  have z11_4 : w10.heap.size < w11.heap.size := by omega
  go_wp2_with fail
  refine (to_v (pt_v O2.out.1 O2.out.2.1 O2.out.2.2) (opp_t _ _ _ _ _ O1.out)).mono ?_
  rintro e w12 ⟨rfl, hb12⟩
  obtain ⟨hc12, hf12⟩ := bcell hb12
  have hz12 := hb12.size
  try simp at hz12
  have z12_0 : w.heap.size < w12.heap.size := by omega
  have z12_1 : w.heap.size + 1 < w12.heap.size := by omega
  have z12_2 : w.heap.size + 1 + 1 < w12.heap.size := by omega
  have z12_3 : w9.heap.size < w12.heap.size := by omega
  have z12_4 : w10.heap.size < w12.heap.size := by omega
  have z12_5 : w11.heap.size < w12.heap.size := by omega
  go_wp2
  go_ret
  refine ⟨rfl, ?_⟩
  repeat (first | exact Below.refl _ _ | assumption | exact Below.alloc (Below.refl _ _) (Nat.le_refl _) _ | refine Below.setCell ?_ (by first | (simp; done) | (simp; omega) | omega) _ | refine below_drewN ?_ _ | refine Below.alloc ?_ (by first | (simp; done) | (simp; omega) | omega) _ | refine Below.trans ?_ (Below.mono (by assumption) (by first | (simp; done) | (simp; omega) | omega)))

set_option maxHeartbeats 1600000 in
set_option maxRecDepth 100000 in
theorem tot_pn (m x y z m' x' y' z' n u v s : Int) (w : World) (h1 : formB m x y z = true) (h2 : formB m' x' y' z' = true) (h3 : formB n u v s = true) (B C : Int) (ea : lexC (x * (192 / m)) (y * (192 / m)) (z * (192 / m)) (x' * (192 / m')) (y' * (192 / m')) (z' * (192 / m')) = 1) (eb : lexC (x' * (192 / m')) (y' * (192 / m')) (z' * (192 / m')) (u * (192 / n)) (v * (192 / n)) (s * (192 / n)) = B) (ec : lexC (x * (192 / m)) (y * (192 / m)) (z * (192 / m)) (u * (192 / n)) (v * (192 / n)) (s * (192 / n)) = C) (hB : B ≤ 0):
    Calls Try.prog 8 #[.agg #[.int .i64 m, .int .i64 x, .int .i64 y, .int .i64 z], .agg #[.int .i64 m', .int .i64 x', .int .i64 y', .int .i64 z'], .agg #[.int .i64 n, .int .i64 u, .int .i64 v, .int .i64 s]] w fun e w' => e = .returned (.bool true) ∧ Below w.heap.size w w' := by
  have H1 := Lib.hid h1; have H2 := Lib.hid h2; have H3 := Lib.hid h3
  have EA := Lib.hid ea; have EB := Lib.hid eb; have EC := Lib.hid ec
  have ED := Lib.hid ((lexC_swap (x * (192 / m)) (y * (192 / m)) (z * (192 / m)) (x' * (192 / m')) (y' * (192 / m')) (z' * (192 / m'))).trans (congrArg (fun q : Int => -q) ea))
  have b3 := lexC_three (x' * (192 / m')) (y' * (192 / m')) (z' * (192 / m')) (u * (192 / n)) (v * (192 / n)) (s * (192 / n))
  have c3 := lexC_three (x * (192 / m)) (y * (192 / m)) (z * (192 / m)) (u * (192 / n)) (v * (192 / n)) (s * (192 / n))
  rw [eb] at b3; rw [ec] at c3
  have B1 : -1 ≤ B := by omega
  have B2 : B ≤ 1 := by omega
  have C1 : -1 ≤ C := by omega
  have C2 : C ≤ 1 := by omega
  clear b3 c3
  have D1 := Lib.hid (dvd192 (formB_right h1)); have D2 := Lib.hid (dvd192 (formB_right h2))
  have O1 := Lib.hid (opp_form h1)
  have F := form_hm h1
  have O2 := Lib.hid (And.intro (opp_twice F.2.1.1 F.2.1.2) (And.intro (opp_twice F.2.2.1.1 F.2.2.1.2) (opp_twice F.2.2.2.1 F.2.2.2.2)))
  clear F
  have Z : ((x * (192 / m)) == (x' * (192 / m')) && ((y * (192 / m)) == (y' * (192 / m')) && (z * (192 / m)) == (z' * (192 / m')))) = false := by
    cases hq : ((x * (192 / m)) == (x' * (192 / m')) && ((y * (192 / m)) == (y' * (192 / m')) && (z * (192 / m)) == (z' * (192 / m')))) with
    | false => rfl
    | true =>
      simp only [Bool.and_eq_true, beq_iff_eq] at hq
      have := (lexC_zero (x * (192 / m)) (y * (192 / m)) (z * (192 / m)) (x' * (192 / m')) (y' * (192 / m')) (z' * (192 / m'))).2 ⟨hq.1, hq.2.1, hq.2.2⟩
      rw [ea] at this; omega
  clear ea eb ec
  go_enter Try.func8, Try.ntmps8
  go_wp2_with fail
  refine (awake_any _).mono ?_
  rintro e w1 ⟨rfl, hb1⟩
  obtain ⟨hc1, hf1⟩ := bcell hb1
  have hz1 := hb1.size
  try simp at hz1
  have z1_0 : w.heap.size < w1.heap.size := by omega
  have z1_1 : w.heap.size + 1 < w1.heap.size := by omega
  have z1_2 : w.heap.size + 1 + 1 < w1.heap.size := by omega
  go_wp2_with fail
  refine (to_v (ord_v EA.out) (order_t _ _ _ _ _ _ _ _ _ H1.out H2.out)).mono ?_
  rintro e w2 ⟨rfl, hb2⟩
  obtain ⟨hc2, hf2⟩ := bcell hb2
  have hz2 := hb2.size
  try simp at hz2
  have z2_0 : w.heap.size < w2.heap.size := by omega
  have z2_1 : w.heap.size + 1 < w2.heap.size := by omega
  have z2_2 : w.heap.size + 1 + 1 < w2.heap.size := by omega
  go_wp2_with fail
  refine (to_v (ord_v EB.out) (order_t _ _ _ _ _ _ _ _ _ H2.out H3.out)).mono ?_
  rintro e w3 ⟨rfl, hb3⟩
  obtain ⟨hc3, hf3⟩ := bcell hb3
  have hz3 := hb3.size
  try simp at hz3
  have z3_0 : w.heap.size < w3.heap.size := by omega
  have z3_1 : w.heap.size + 1 < w3.heap.size := by omega
  have z3_2 : w.heap.size + 1 + 1 < w3.heap.size := by omega
  go_wp2_with fail
  refine (to_v (ord_v EC.out) (order_t _ _ _ _ _ _ _ _ _ H1.out H3.out)).mono ?_
  rintro e w4 ⟨rfl, hb4⟩
  obtain ⟨hc4, hf4⟩ := bcell hb4
  have hz4 := hb4.size
  try simp at hz4
  have z4_0 : w.heap.size < w4.heap.size := by omega
  have z4_1 : w.heap.size + 1 < w4.heap.size := by omega
  have z4_2 : w.heap.size + 1 + 1 < w4.heap.size := by omega
  go_wp2_with fail
  refine (to_v (ord_v ED.out) (order_t _ _ _ _ _ _ _ _ _ H2.out H1.out)).mono ?_
  rintro e w5 ⟨rfl, hb5⟩
  obtain ⟨hc5, hf5⟩ := bcell hb5
  have hz5 := hb5.size
  try simp at hz5
  have z5_0 : w.heap.size < w5.heap.size := by omega
  have z5_1 : w.heap.size + 1 < w5.heap.size := by omega
  have z5_2 : w.heap.size + 1 + 1 < w5.heap.size := by omega
  go_wp2_with fail
  refine (form_any _ _ _ _ _).mono ?_
  rintro e w6 ⟨rfl, hb6⟩
  obtain ⟨hc6, hf6⟩ := bcell hb6
  have hz6 := hb6.size
  try simp at hz6
  have z6_0 : w.heap.size < w6.heap.size := by omega
  have z6_1 : w.heap.size + 1 < w6.heap.size := by omega
  have z6_2 : w.heap.size + 1 + 1 < w6.heap.size := by omega
  go_wp2_with fail
  refine (form_any _ _ _ _ _).mono ?_
  rintro e w7 ⟨rfl, hb7⟩
  obtain ⟨hc7, hf7⟩ := bcell hb7
  have hz7 := hb7.size
  try simp at hz7
  have z7_0 : w.heap.size < w7.heap.size := by omega
  have z7_1 : w.heap.size + 1 < w7.heap.size := by omega
  have z7_2 : w.heap.size + 1 + 1 < w7.heap.size := by omega
  go_wp2_with fail
  refine (form_any _ _ _ _ _).mono ?_
  rintro e w8 ⟨rfl, hb8⟩
  obtain ⟨hc8, hf8⟩ := bcell hb8
  have hz8 := hb8.size
  try simp at hz8
  have z8_0 : w.heap.size < w8.heap.size := by omega
  have z8_1 : w.heap.size + 1 < w8.heap.size := by omega
  have z8_2 : w.heap.size + 1 + 1 < w8.heap.size := by omega
  go_wp2_with fail
  refine (finer_t _ _ _ _ _ _ r192 H1.out D1.out).mono ?_
  rintro e w9 ⟨rfl, hb9⟩
  obtain ⟨hc9, hf9⟩ := bcell hb9
  have hz9 := hb9.size
  try simp at hz9
  have z9_0 : w.heap.size < w9.heap.size := by omega
  have z9_1 : w.heap.size + 1 < w9.heap.size := by omega
  have z9_2 : w.heap.size + 1 + 1 < w9.heap.size := by omega
  go_wp2_with fail
  refine (finer_t _ _ _ _ _ _ r192 H2.out D2.out).mono ?_
  rintro e w10 ⟨rfl, hb10⟩
  obtain ⟨hc10, hf10⟩ := bcell hb10
  have hz10 := hb10.size
  try simp at hz10
  have z10_0 : w.heap.size < w10.heap.size := by omega
  have z10_1 : w.heap.size + 1 < w10.heap.size := by omega
  have z10_2 : w.heap.size + 1 + 1 < w10.heap.size := by omega
  have z10_3 : w9.heap.size < w10.heap.size := by omega
  go_wp2_with fail
  refine (opp_t _ _ _ _ _ H1.out).mono ?_
  rintro e w11 ⟨rfl, hb11⟩
  obtain ⟨hc11, hf11⟩ := bcell hb11
  have hz11 := hb11.size
  try simp at hz11
  have z11_0 : w.heap.size < w11.heap.size := by omega
  have z11_1 : w.heap.size + 1 < w11.heap.size := by omega
  have z11_2 : w.heap.size + 1 + 1 < w11.heap.size := by omega
  have z11_3 : w9.heap.size < w11.heap.size := by omega
  have z11_4 : w10.heap.size < w11.heap.size := by omega
  go_wp2_with fail
  refine (to_v (pt_v O2.out.1 O2.out.2.1 O2.out.2.2) (opp_t _ _ _ _ _ O1.out)).mono ?_
  rintro e w12 ⟨rfl, hb12⟩
  obtain ⟨hc12, hf12⟩ := bcell hb12
  have hz12 := hb12.size
  try simp at hz12
  have z12_0 : w.heap.size < w12.heap.size := by omega
  have z12_1 : w.heap.size + 1 < w12.heap.size := by omega
  have z12_2 : w.heap.size + 1 + 1 < w12.heap.size := by omega
  have z12_3 : w9.heap.size < w12.heap.size := by omega
  have z12_4 : w10.heap.size < w12.heap.size := by omega
  have z12_5 : w11.heap.size < w12.heap.size := by omega
  go_wp2
  go_ret
  refine ⟨rfl, ?_⟩
  repeat (first | exact Below.refl _ _ | assumption | exact Below.alloc (Below.refl _ _) (Nat.le_refl _) _ | refine Below.setCell ?_ (by first | (simp; done) | (simp; omega) | omega) _ | refine below_drewN ?_ _ | refine Below.alloc ?_ (by first | (simp; done) | (simp; omega) | omega) _ | refine Below.trans ?_ (Below.mono (by assumption) (by first | (simp; done) | (simp; omega) | omega)))

set_option maxHeartbeats 1600000 in
set_option maxRecDepth 100000 in
theorem tot_pp (m x y z m' x' y' z' n u v s : Int) (w : World) (h1 : formB m x y z = true) (h2 : formB m' x' y' z' = true) (h3 : formB n u v s = true) (B C : Int) (ea : lexC (x * (192 / m)) (y * (192 / m)) (z * (192 / m)) (x' * (192 / m')) (y' * (192 / m')) (z' * (192 / m')) = 1) (eb : lexC (x' * (192 / m')) (y' * (192 / m')) (z' * (192 / m')) (u * (192 / n)) (v * (192 / n)) (s * (192 / n)) = B) (ec : lexC (x * (192 / m)) (y * (192 / m)) (z * (192 / m)) (u * (192 / n)) (v * (192 / n)) (s * (192 / n)) = C) (hB : 0 < B):
    Calls Try.prog 8 #[.agg #[.int .i64 m, .int .i64 x, .int .i64 y, .int .i64 z], .agg #[.int .i64 m', .int .i64 x', .int .i64 y', .int .i64 z'], .agg #[.int .i64 n, .int .i64 u, .int .i64 v, .int .i64 s]] w fun e w' => e = .returned (.bool true) ∧ Below w.heap.size w w' := by
  have H1 := Lib.hid h1; have H2 := Lib.hid h2; have H3 := Lib.hid h3
  have EA := Lib.hid ea; have EB := Lib.hid eb; have EC := Lib.hid ec
  have ED := Lib.hid ((lexC_swap (x * (192 / m)) (y * (192 / m)) (z * (192 / m)) (x' * (192 / m')) (y' * (192 / m')) (z' * (192 / m'))).trans (congrArg (fun q : Int => -q) ea))
  have b3 := lexC_three (x' * (192 / m')) (y' * (192 / m')) (z' * (192 / m')) (u * (192 / n)) (v * (192 / n)) (s * (192 / n))
  have c3 := lexC_three (x * (192 / m)) (y * (192 / m)) (z * (192 / m)) (u * (192 / n)) (v * (192 / n)) (s * (192 / n))
  rw [eb] at b3; rw [ec] at c3
  have B1 : -1 ≤ B := by omega
  have B2 : B ≤ 1 := by omega
  have C1 : -1 ≤ C := by omega
  have C2 : C ≤ 1 := by omega
  clear b3 c3
  have D1 := Lib.hid (dvd192 (formB_right h1)); have D2 := Lib.hid (dvd192 (formB_right h2))
  have O1 := Lib.hid (opp_form h1)
  have F := form_hm h1
  have O2 := Lib.hid (And.intro (opp_twice F.2.1.1 F.2.1.2) (And.intro (opp_twice F.2.2.1.1 F.2.2.1.2) (opp_twice F.2.2.2.1 F.2.2.2.2)))
  clear F
  have Z : ((x * (192 / m)) == (x' * (192 / m')) && ((y * (192 / m)) == (y' * (192 / m')) && (z * (192 / m)) == (z' * (192 / m')))) = false := by
    cases hq : ((x * (192 / m)) == (x' * (192 / m')) && ((y * (192 / m)) == (y' * (192 / m')) && (z * (192 / m)) == (z' * (192 / m')))) with
    | false => rfl
    | true =>
      simp only [Bool.and_eq_true, beq_iff_eq] at hq
      have := (lexC_zero (x * (192 / m)) (y * (192 / m)) (z * (192 / m)) (x' * (192 / m')) (y' * (192 / m')) (z' * (192 / m'))).2 ⟨hq.1, hq.2.1, hq.2.2⟩
      rw [ea] at this; omega
  clear ea eb ec
  go_enter Try.func8, Try.ntmps8
  go_wp2_with fail
  refine (awake_any _).mono ?_
  rintro e w1 ⟨rfl, hb1⟩
  obtain ⟨hc1, hf1⟩ := bcell hb1
  have hz1 := hb1.size
  try simp at hz1
  have z1_0 : w.heap.size < w1.heap.size := by omega
  have z1_1 : w.heap.size + 1 < w1.heap.size := by omega
  have z1_2 : w.heap.size + 1 + 1 < w1.heap.size := by omega
  go_wp2_with fail
  refine (to_v (ord_v EA.out) (order_t _ _ _ _ _ _ _ _ _ H1.out H2.out)).mono ?_
  rintro e w2 ⟨rfl, hb2⟩
  obtain ⟨hc2, hf2⟩ := bcell hb2
  have hz2 := hb2.size
  try simp at hz2
  have z2_0 : w.heap.size < w2.heap.size := by omega
  have z2_1 : w.heap.size + 1 < w2.heap.size := by omega
  have z2_2 : w.heap.size + 1 + 1 < w2.heap.size := by omega
  go_wp2_with fail
  refine (to_v (ord_v EB.out) (order_t _ _ _ _ _ _ _ _ _ H2.out H3.out)).mono ?_
  rintro e w3 ⟨rfl, hb3⟩
  obtain ⟨hc3, hf3⟩ := bcell hb3
  have hz3 := hb3.size
  try simp at hz3
  have z3_0 : w.heap.size < w3.heap.size := by omega
  have z3_1 : w.heap.size + 1 < w3.heap.size := by omega
  have z3_2 : w.heap.size + 1 + 1 < w3.heap.size := by omega
  go_wp2_with fail
  refine (to_v (ord_v EC.out) (order_t _ _ _ _ _ _ _ _ _ H1.out H3.out)).mono ?_
  rintro e w4 ⟨rfl, hb4⟩
  obtain ⟨hc4, hf4⟩ := bcell hb4
  have hz4 := hb4.size
  try simp at hz4
  have z4_0 : w.heap.size < w4.heap.size := by omega
  have z4_1 : w.heap.size + 1 < w4.heap.size := by omega
  have z4_2 : w.heap.size + 1 + 1 < w4.heap.size := by omega
  go_wp2_with fail
  refine (to_v (ord_v ED.out) (order_t _ _ _ _ _ _ _ _ _ H2.out H1.out)).mono ?_
  rintro e w5 ⟨rfl, hb5⟩
  obtain ⟨hc5, hf5⟩ := bcell hb5
  have hz5 := hb5.size
  try simp at hz5
  have z5_0 : w.heap.size < w5.heap.size := by omega
  have z5_1 : w.heap.size + 1 < w5.heap.size := by omega
  have z5_2 : w.heap.size + 1 + 1 < w5.heap.size := by omega
  go_wp2_with fail
  refine (form_any _ _ _ _ _).mono ?_
  rintro e w6 ⟨rfl, hb6⟩
  obtain ⟨hc6, hf6⟩ := bcell hb6
  have hz6 := hb6.size
  try simp at hz6
  have z6_0 : w.heap.size < w6.heap.size := by omega
  have z6_1 : w.heap.size + 1 < w6.heap.size := by omega
  have z6_2 : w.heap.size + 1 + 1 < w6.heap.size := by omega
  go_wp2_with fail
  refine (form_any _ _ _ _ _).mono ?_
  rintro e w7 ⟨rfl, hb7⟩
  obtain ⟨hc7, hf7⟩ := bcell hb7
  have hz7 := hb7.size
  try simp at hz7
  have z7_0 : w.heap.size < w7.heap.size := by omega
  have z7_1 : w.heap.size + 1 < w7.heap.size := by omega
  have z7_2 : w.heap.size + 1 + 1 < w7.heap.size := by omega
  go_wp2_with fail
  refine (form_any _ _ _ _ _).mono ?_
  rintro e w8 ⟨rfl, hb8⟩
  obtain ⟨hc8, hf8⟩ := bcell hb8
  have hz8 := hb8.size
  try simp at hz8
  have z8_0 : w.heap.size < w8.heap.size := by omega
  have z8_1 : w.heap.size + 1 < w8.heap.size := by omega
  have z8_2 : w.heap.size + 1 + 1 < w8.heap.size := by omega
  go_wp2_with fail
  refine (finer_t _ _ _ _ _ _ r192 H1.out D1.out).mono ?_
  rintro e w9 ⟨rfl, hb9⟩
  obtain ⟨hc9, hf9⟩ := bcell hb9
  have hz9 := hb9.size
  try simp at hz9
  have z9_0 : w.heap.size < w9.heap.size := by omega
  have z9_1 : w.heap.size + 1 < w9.heap.size := by omega
  have z9_2 : w.heap.size + 1 + 1 < w9.heap.size := by omega
  go_wp2_with fail
  refine (finer_t _ _ _ _ _ _ r192 H2.out D2.out).mono ?_
  rintro e w10 ⟨rfl, hb10⟩
  obtain ⟨hc10, hf10⟩ := bcell hb10
  have hz10 := hb10.size
  try simp at hz10
  have z10_0 : w.heap.size < w10.heap.size := by omega
  have z10_1 : w.heap.size + 1 < w10.heap.size := by omega
  have z10_2 : w.heap.size + 1 + 1 < w10.heap.size := by omega
  have z10_3 : w9.heap.size < w10.heap.size := by omega
  go_wp2_with fail
  refine (opp_t _ _ _ _ _ H1.out).mono ?_
  rintro e w11 ⟨rfl, hb11⟩
  obtain ⟨hc11, hf11⟩ := bcell hb11
  have hz11 := hb11.size
  try simp at hz11
  have z11_0 : w.heap.size < w11.heap.size := by omega
  have z11_1 : w.heap.size + 1 < w11.heap.size := by omega
  have z11_2 : w.heap.size + 1 + 1 < w11.heap.size := by omega
  have z11_3 : w9.heap.size < w11.heap.size := by omega
  have z11_4 : w10.heap.size < w11.heap.size := by omega
  go_wp2_with fail
  refine (to_v (pt_v O2.out.1 O2.out.2.1 O2.out.2.2) (opp_t _ _ _ _ _ O1.out)).mono ?_
  rintro e w12 ⟨rfl, hb12⟩
  obtain ⟨hc12, hf12⟩ := bcell hb12
  have hz12 := hb12.size
  try simp at hz12
  have z12_0 : w.heap.size < w12.heap.size := by omega
  have z12_1 : w.heap.size + 1 < w12.heap.size := by omega
  have z12_2 : w.heap.size + 1 + 1 < w12.heap.size := by omega
  have z12_3 : w9.heap.size < w12.heap.size := by omega
  have z12_4 : w10.heap.size < w12.heap.size := by omega
  have z12_5 : w11.heap.size < w12.heap.size := by omega
  go_wp2
  go_ret
  refine ⟨rfl, ?_⟩
  repeat (first | exact Below.refl _ _ | assumption | exact Below.alloc (Below.refl _ _) (Nat.le_refl _) _ | refine Below.setCell ?_ (by first | (simp; done) | (simp; omega) | omega) _ | refine below_drewN ?_ _ | refine Below.alloc ?_ (by first | (simp; done) | (simp; omega) | omega) _ | refine Below.trans ?_ (Below.mono (by assumption) (by first | (simp; done) | (simp; omega) | omega)))

theorem total_any (m x y z m' x' y' z' n u v s : Int) (w : World) : Calls Try.prog 8 #[.agg #[.int .i64 m, .int .i64 x, .int .i64 y, .int .i64 z], .agg #[.int .i64 m', .int .i64 x', .int .i64 y', .int .i64 z'], .agg #[.int .i64 n, .int .i64 u, .int .i64 v, .int .i64 s]] w fun e w' => e = .returned (.bool true) ∧ Below w.heap.size w w' := by
  cases h1 : formB m x y z <;> cases h2 : formB m' x' y' z' <;> cases h3 : formB n u v s
  · exact total_FFF _ _ _ _ _ _ _ _ _ _ _ _ w h1 h2 h3
  · exact total_FFT _ _ _ _ _ _ _ _ _ _ _ _ w h1 h2 h3
  · exact total_FTF _ _ _ _ _ _ _ _ _ _ _ _ w h1 h2 h3
  · exact total_FTT _ _ _ _ _ _ _ _ _ _ _ _ w h1 h2 h3
  · exact total_TFF _ _ _ _ _ _ _ _ _ _ _ _ w h1 h2 h3
  · exact total_TFT _ _ _ _ _ _ _ _ _ _ _ _ w h1 h2 h3
  · exact total_TTF _ _ _ _ _ _ _ _ _ _ _ _ w h1 h2 h3
  · rcases lexC_three (x * (192 / m)) (y * (192 / m)) (z * (192 / m)) (x' * (192 / m')) (y' * (192 / m')) (z' * (192 / m')) with ea | ea | ea <;> rcases Int.lt_or_le 0 (lexC (x' * (192 / m')) (y' * (192 / m')) (z' * (192 / m')) (u * (192 / n)) (v * (192 / n)) (s * (192 / n))) with hB | hB
    · exact tot_np _ _ _ _ _ _ _ _ _ _ _ _ w h1 h2 h3 _ _ ea rfl rfl hB
    · exact tot_nn _ _ _ _ _ _ _ _ _ _ _ _ w h1 h2 h3 _ _ ea rfl rfl hB
    · exact tot_zp _ _ _ _ _ _ _ _ _ _ _ _ w h1 h2 h3 _ _ ea rfl rfl hB
    · exact tot_zn _ _ _ _ _ _ _ _ _ _ _ _ w h1 h2 h3 _ _ ea rfl rfl hB
    · exact tot_pp _ _ _ _ _ _ _ _ _ _ _ _ w h1 h2 h3 _ _ ea rfl rfl hB
    · exact tot_pn _ _ _ _ _ _ _ _ _ _ _ _ w h1 h2 h3 _ _ ea rfl rfl hB

end Go.Proofs.Ytpjljlnkfimbaaa
