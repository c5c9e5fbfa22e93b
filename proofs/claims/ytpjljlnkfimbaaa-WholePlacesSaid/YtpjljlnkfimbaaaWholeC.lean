/-
  The law WholePlaces, walked, where the places differ.
-/
import Derived.Test.YtpjljlnkfimbaaaWholeB
namespace Go.Proofs.Ytpjljlnkfimbaaa
open Go.RowKit
attribute [local irreducible] World.setCell

set_option maxHeartbeats 6400000 in
set_option maxRecDepth 100000 in
theorem whole_p (a0 a1 a2 b0 b1 b2 k x0 x1 x2 n : Int) (M p0 p1 p2 q0 q1 q2 d0 d1 d2 o0 o1 o2 f0 f1 f2 : Int) (w : World) (a0_1 : -32768 ≤ a0) (a0_2 : a0 ≤ 32767) (a1_1 : -32768 ≤ a1) (a1_2 : a1 ≤ 32767) (a2_1 : -32768 ≤ a2) (a2_2 : a2 ≤ 32767) (b0_1 : -32768 ≤ b0) (b0_2 : b0 ≤ 32767) (b1_1 : -32768 ≤ b1) (b1_2 : b1 ≤ 32767) (b2_1 : -32768 ≤ b2) (b2_2 : b2 ≤ 32767) (x0_1 : -32768 ≤ x0) (x0_2 : x0 ≤ 32767) (x1_1 : -32768 ≤ x1) (x1_2 : x1 ≤ 32767) (x2_1 : -32768 ≤ x2) (x2_2 : x2 ≤ 32767) (k_1 : 0 ≤ k) (k_2 : k ≤ 255) (n_1 : -128 ≤ n) (n_2 : n ≤ 127) (eM : partsC k = M) (hR : rightB M = true) (eP : x0 % M = p0 ∧ x1 % M = p1 ∧ x2 % M = p2) (eQ : (p0 + b0 * (M / 24)) % M = q0 ∧ (p1 + b1 * (M / 24)) % M = q1 ∧ (p2 + b2 * (M / 24)) % M = q2) (eB : (q0 + ((-b0) % 24) * (M / 24)) % M = p0 ∧ (q1 + ((-b1) % 24) * (M / 24)) % M = p1 ∧ (q2 + ((-b2) % 24) * (M / 24)) % M = p2) (eD : (q0 - p0) % M = d0 ∧ (q1 - p1) % M = d1 ∧ (q2 - p2) % M = d2) (eV : (0 + b0 * (M / 24)) % M = d0 ∧ (0 + b1 * (M / 24)) % M = d1 ∧ (0 + b2 * (M / 24)) % M = d2) (eO : (0 - p0) % M = o0 ∧ (0 - p1) % M = o1 ∧ (0 - p2) % M = o2) (eF : p0 * (192 / M) = f0 ∧ p1 * (192 / M) = f1 ∧ p2 * (192 / M) = f2) (hP : formB M p0 p1 p2 = true) (hQ : formB M q0 q1 q2 = true) (hO : formB M 0 0 0 = true) (hF : formB 192 f0 f1 f2 = true) (eZ : lexC (f0 * (192 / 192)) (f1 * (192 / 192)) (f2 * (192 / 192)) (p0 * (192 / M)) (p1 * (192 / M)) (p2 * (192 / M)) = 0) (eR : lexC (p0 * (192 / M)) (p1 * (192 / M)) (p2 * (192 / M)) (q0 * (192 / M)) (q1 * (192 / M)) (q2 * (192 / M)) = 1) (eS : lexC (q0 * (192 / M)) (q1 * (192 / M)) (q2 * (192 / M)) (p0 * (192 / M)) (p1 * (192 / M)) (p2 * (192 / M)) = -1) (hZ : (p0 == q0 && (p1 == q1 && p2 == q2)) = false):
    Calls Try.prog 9 #[.agg #[.int .i16 a0, .int .i16 a1, .int .i16 a2], .agg #[.int .i16 b0, .int .i16 b1, .int .i16 b2], .int .u8 k, .agg #[.int .i16 x0, .int .i16 x1, .int .i16 x2], .int .i8 n] w fun e w' => e = .returned (.bool true) ∧ Below w.heap.size w w' := by
  have EM := Lib.hid eM; have HR := Lib.hid hR; have EP := Lib.hid eP; have EQ := Lib.hid eQ; have EB := Lib.hid eB; have ED := Lib.hid eD; have EV := Lib.hid eV; have EO := Lib.hid eO; have EF := Lib.hid eF
  have HP := Lib.hid hP; have HQ := Lib.hid hQ; have HO := Lib.hid hO; have HF := Lib.hid hF; have EZ := Lib.hid eZ; have ER := Lib.hid eR; have ES := Lib.hid eS
  clear eM hR eP eQ eB eD eV eO eF hP hQ hO hF eZ eR eS
  have gc0 := g_comm b0 a0
  have gn0 := w_neg (a0 + b0)
  have gc1 := g_comm b1 a1
  have gn1 := w_neg (a1 + b1)
  have gc2 := g_comm b2 a2
  have gn2 := w_neg (a2 + b2)
  go_enter Try.func9, Try.ntmps9
  go_wp2_with fail
  refine (add_any _ _ _ _ _ _ _).mono ?_
  rintro e w1 ⟨rfl, hb1⟩
  obtain ⟨hc1, hf1⟩ := bcell hb1
  have hz1 := hb1.size
  try simp at hz1
  have z1_0 : w.heap.size < w1.heap.size := by omega
  have z1_1 : w.heap.size + 1 < w1.heap.size := by omega
  have z1_2 : w.heap.size + 1 + 1 < w1.heap.size := by omega
  have z1_3 : w.heap.size + 1 + 1 + 1 < w1.heap.size := by omega
  have z1_4 : w.heap.size + 1 + 1 + 1 + 1 < w1.heap.size := by omega
  go_wp2
  refine region_all (by kernel_rfl) (by kernel_rfl) ?_
  repeat (go_big_quiet_step (first | (go_at_call 17; exact held_of _ (Nat.le_refl _) (add_any _ _ _ _ _ _ _)) | (go_at_call 19; exact held_of _ (Nat.le_refl _) (sub_any _ _ _ _ _ _ _)) | (go_at_call 21; exact held_of _ (Nat.le_refl _) (neg_any _ _ _ _))))
  refine wpQuiet_nil ?_
  rintro w2 ⟨⟨w0, hb2⟩, rfl⟩
  obtain ⟨hc2, hf2⟩ := bcell hb2
  have hz2 := hb2.size
  try simp at hz2
  have z2_0 : w.heap.size < w2.heap.size := by omega
  have z2_1 : w.heap.size + 1 < w2.heap.size := by omega
  have z2_2 : w.heap.size + 1 + 1 < w2.heap.size := by omega
  have z2_3 : w.heap.size + 1 + 1 + 1 < w2.heap.size := by omega
  have z2_4 : w.heap.size + 1 + 1 + 1 + 1 < w2.heap.size := by omega
  have z2_5 : w1.heap.size < w2.heap.size := by omega
  clear gc0 gn0 gc1 gn1 gc2 gn2
  go_wp2
  have e3 : ∃ N : Nat, n % 24 = (N : Int) ∧ N < 24 := ⟨(n % 24).toNat, by omega, by omega⟩
  obtain ⟨N, eN, hN⟩ := e3
  have EN := Lib.hid eN; clear eN
  simp only [Int.add_emod_emod, Int.emod_sub_emod, Int.add_zero, Int.add_sub_cancel, Int.add_right_neg, Int.zero_emod, Int.reduceAdd, Int.reduceMod]
  go_loopw [15] (fun i wr => ∃ k : Nat, k ≤ N ∧ i = .int .i64 k ∧ Sum2 w2 w2.heap.size a0 a1 a2 k wr) (fun i _ => N - (intOf i).toNat)
  case atStart =>
    refine ⟨0, Nat.zero_le _, rfl, ⟨?_, by go_simp, by go_simp, by go_simp, by go_simp, by intro o; go_simp⟩⟩
    exact (Below.refl _ _).alloc (Nat.le_refl _) _
  case round =>
    obtain ⟨j, hj, rfl, hinv⟩ := hrel
    obtain ⟨hcw, hfw⟩ := bcell2 hinv.below
    have cb0 := hinv.cb0; have cb1 := hinv.cb1; have cb2 := hinv.cb2; have fb := hinv.fb; have zb := hinv.zb
    by_cases hlt : j < N
    · go_wp2_with (go_at_call 33; refine (among_any _ _ _ (by omega) (by omega)).mono ?_; rintro e w' ⟨rfl, rfl⟩; rw [EN.out])
      refine (add_any _ _ _ _ _ _ _).mono ?_
      rintro e wa ⟨rfl, hba⟩
      obtain ⟨hca, hfa⟩ := bcell hba
      have hza := hba.size
      have y1 : w2.heap.size < wa.heap.size := by omega
      go_wp2
      go_roundw
      case rel => exact ⟨j + 1, by omega, by go_num, hinv.step hba (by simp) (by simp) (by simp)⟩
      case measure => simp [intOf]; omega
    · obtain rfl : j = N := by omega
      have hbel := hinv.below
      clear hinv hj hlt
      have y_0 : w.heap.size < wr.heap.size := by omega
      have y_1 : w.heap.size + 1 < wr.heap.size := by omega
      have y_2 : w.heap.size + 1 + 1 < wr.heap.size := by omega
      have y_3 : w.heap.size + 1 + 1 + 1 < wr.heap.size := by omega
      have y_4 : w.heap.size + 1 + 1 + 1 + 1 < wr.heap.size := by omega
      have y_5 : w1.heap.size < wr.heap.size := by omega
      have t0 : (n * a0 % 24 == (j : Int) * a0 % 24) = true := by rw [← EN.out]; exact w_times n a0
      have t1 : (n * a1 % 24 == (j : Int) * a1 % 24) = true := by rw [← EN.out]; exact w_times n a1
      have t2 : (n * a2 % 24 == (j : Int) * a2 % 24) = true := by rw [← EN.out]; exact w_times n a2
      go_wp2_with (go_at_call 33; refine (among_any _ _ _ (by omega) (by omega)).mono ?_; rintro e w' ⟨rfl, rfl⟩; rw [EN.out])
      refine region_all (by kernel_rfl) (by kernel_rfl) ?_
      repeat (go_big_quiet_step ((go_at_call 23; exact held_of _ (Nat.le_refl _) (times_any _ _ _ _ _))))
      refine wpQuiet_nil ?_
      rintro w3 ⟨⟨w0, hb3⟩, rfl⟩
      obtain ⟨hc3, hf3⟩ := bcell hb3
      have hz3 := hb3.size
      clear t0 t1 t2
      have z3_0 : w.heap.size < w3.heap.size := by omega
      have z3_1 : w.heap.size + 1 < w3.heap.size := by omega
      have z3_2 : w.heap.size + 1 + 1 < w3.heap.size := by omega
      have z3_3 : w.heap.size + 1 + 1 + 1 < w3.heap.size := by omega
      have z3_4 : w.heap.size + 1 + 1 + 1 + 1 < w3.heap.size := by omega
      have z3_5 : w1.heap.size < w3.heap.size := by omega
      have z3_6 : w2.heap.size < w3.heap.size := by omega
      go_wp2_with fail
      refine (to_s EM.out (parts_any _ _ k_1 k_2)).mono ?_
      rintro e w' ⟨rfl, rfl⟩
      go_wp2_with fail
      refine (to_v (pt_v EP.out.1 EP.out.2.1 EP.out.2.2) (place_t _ _ _ _ _ HR.out)).mono ?_
      rintro e w4 ⟨rfl, hb4⟩
      obtain ⟨hc4, hf4⟩ := bcell hb4
      have hz4 := hb4.size
      try simp at hz4
      have z4_0 : w.heap.size < w4.heap.size := by omega
      have z4_1 : w.heap.size + 1 < w4.heap.size := by omega
      have z4_2 : w.heap.size + 1 + 1 < w4.heap.size := by omega
      have z4_3 : w.heap.size + 1 + 1 + 1 < w4.heap.size := by omega
      have z4_4 : w.heap.size + 1 + 1 + 1 + 1 < w4.heap.size := by omega
      have z4_5 : w1.heap.size < w4.heap.size := by omega
      have z4_6 : w2.heap.size < w4.heap.size := by omega
      go_wp2_with fail
      refine (to_v (pt_v EQ.out.1 EQ.out.2.1 EQ.out.2.2) (shift_t _ _ _ _ _ _ _ _ HP.out)).mono ?_
      rintro e w5 ⟨rfl, hb5⟩
      obtain ⟨hc5, hf5⟩ := bcell hb5
      have hz5 := hb5.size
      try simp at hz5
      have z5_0 : w.heap.size < w5.heap.size := by omega
      have z5_1 : w.heap.size + 1 < w5.heap.size := by omega
      have z5_2 : w.heap.size + 1 + 1 < w5.heap.size := by omega
      have z5_3 : w.heap.size + 1 + 1 + 1 < w5.heap.size := by omega
      have z5_4 : w.heap.size + 1 + 1 + 1 + 1 < w5.heap.size := by omega
      have z5_5 : w1.heap.size < w5.heap.size := by omega
      have z5_6 : w2.heap.size < w5.heap.size := by omega
      have z5_7 : w4.heap.size < w5.heap.size := by omega
      go_wp2
      go_region_held3 (fun w' => w'.cell? ⟨w5.heap.size, 0, none⟩ = some (.int .i64 M) ∧ w'.cell? ⟨w5.heap.size, 1, none⟩ = some (.int .i64 q0) ∧ w'.cell? ⟨w5.heap.size, 2, none⟩ = some (.int .i64 q1) ∧ w'.cell? ⟨w5.heap.size, 3, none⟩ = some (.int .i64 q2) ∧ w'.cell? ⟨w.heap.size + 1 + 1 + 1 + 1, 0, none⟩ = some (.int .i64 b0) ∧ w'.cell? ⟨w.heap.size + 1 + 1 + 1 + 1, 1, none⟩ = some (.int .i64 b1) ∧ w'.cell? ⟨w.heap.size + 1 + 1 + 1 + 1, 2, none⟩ = some (.int .i64 b2)) ((go_split_ands; (repeat' apply And.intro) <;> (repeat' (first | assumption | (go_simp; done) | refine keep_alloc ?_ | refine keep_set ?_ ?_ | (dsimp only; omega) | omega)))) (first | (go_at_call 25; refine (to_v (pt_v EB.out.1 EB.out.2.1 EB.out.2.2) (shift_t _ _ _ _ _ _ _ _ HQ.out)).mono ?_; rintro e wS ⟨rfl, hbwS⟩; obtain ⟨hcwS, hfwS⟩ := bcell hbwS; have hzwS := hbwS.size; (try simp at hzwS); (try have zwS_0 : w.heap.size < wS.heap.size := (by omega)); (try have zwS_1 : w.heap.size + 1 < wS.heap.size := (by omega)); (try have zwS_2 : w.heap.size + 1 + 1 < wS.heap.size := (by omega)); (try have zwS_3 : w.heap.size + 1 + 1 + 1 < wS.heap.size := (by omega)); (try have zwS_4 : w.heap.size + 1 + 1 + 1 + 1 < wS.heap.size := (by omega)); (try have zwS_5 : w1.heap.size < wS.heap.size := (by omega)); (try have zwS_6 : w2.heap.size < wS.heap.size := (by omega)); (try have zwS_7 : w4.heap.size < wS.heap.size := (by omega)); (try have zwS_8 : w5.heap.size < wS.heap.size := (by omega)); (try have zwS_9 : w5.heap.size + 1 < wS.heap.size := (by omega)); (try have zwS_10 : wN.heap.size < wS.heap.size := (by omega)); have fwS0 : wS.cell? ⟨w5.heap.size, 0, none⟩ = some (.int .i64 M) := (hcwS _ _ (by first | omega | (simp; done) | (simp; omega))).trans (by first | assumption | (go_simp; done)); have fwS1 : wS.cell? ⟨w5.heap.size, 1, none⟩ = some (.int .i64 q0) := (hcwS _ _ (by first | omega | (simp; done) | (simp; omega))).trans (by first | assumption | (go_simp; done)); have fwS2 : wS.cell? ⟨w5.heap.size, 2, none⟩ = some (.int .i64 q1) := (hcwS _ _ (by first | omega | (simp; done) | (simp; omega))).trans (by first | assumption | (go_simp; done)); have fwS3 : wS.cell? ⟨w5.heap.size, 3, none⟩ = some (.int .i64 q2) := (hcwS _ _ (by first | omega | (simp; done) | (simp; omega))).trans (by first | assumption | (go_simp; done)); have fwS4 : wS.cell? ⟨w.heap.size + 1 + 1 + 1 + 1, 0, none⟩ = some (.int .i64 b0) := (hcwS _ _ (by first | omega | (simp; done) | (simp; omega))).trans (by first | assumption | (go_simp; done)); have fwS5 : wS.cell? ⟨w.heap.size + 1 + 1 + 1 + 1, 1, none⟩ = some (.int .i64 b1) := (hcwS _ _ (by first | omega | (simp; done) | (simp; omega))).trans (by first | assumption | (go_simp; done)); have fwS6 : wS.cell? ⟨w.heap.size + 1 + 1 + 1 + 1, 2, none⟩ = some (.int .i64 b2) := (hcwS _ _ (by first | omega | (simp; done) | (simp; omega))).trans (by first | assumption | (go_simp; done))) | (go_at_call 21; refine (neg_any _ _ _ _).mono ?_; rintro e wN ⟨rfl, hbwN⟩; obtain ⟨hcwN, hfwN⟩ := bcell hbwN; have hzwN := hbwN.size; (try simp at hzwN); (try have zwN_0 : w.heap.size < wN.heap.size := (by omega)); (try have zwN_1 : w.heap.size + 1 < wN.heap.size := (by omega)); (try have zwN_2 : w.heap.size + 1 + 1 < wN.heap.size := (by omega)); (try have zwN_3 : w.heap.size + 1 + 1 + 1 < wN.heap.size := (by omega)); (try have zwN_4 : w.heap.size + 1 + 1 + 1 + 1 < wN.heap.size := (by omega)); (try have zwN_5 : w1.heap.size < wN.heap.size := (by omega)); (try have zwN_6 : w2.heap.size < wN.heap.size := (by omega)); (try have zwN_7 : w4.heap.size < wN.heap.size := (by omega)); (try have zwN_8 : w5.heap.size < wN.heap.size := (by omega)); (try have zwN_9 : w5.heap.size + 1 < wN.heap.size := (by omega)); (try have zwN_10 : wS.heap.size < wN.heap.size := (by omega)); have fwN0 : wN.cell? ⟨w5.heap.size, 0, none⟩ = some (.int .i64 M) := (hcwN _ _ (by first | omega | (simp; done) | (simp; omega))).trans (by first | assumption | (go_simp; done)); have fwN1 : wN.cell? ⟨w5.heap.size, 1, none⟩ = some (.int .i64 q0) := (hcwN _ _ (by first | omega | (simp; done) | (simp; omega))).trans (by first | assumption | (go_simp; done)); have fwN2 : wN.cell? ⟨w5.heap.size, 2, none⟩ = some (.int .i64 q1) := (hcwN _ _ (by first | omega | (simp; done) | (simp; omega))).trans (by first | assumption | (go_simp; done)); have fwN3 : wN.cell? ⟨w5.heap.size, 3, none⟩ = some (.int .i64 q2) := (hcwN _ _ (by first | omega | (simp; done) | (simp; omega))).trans (by first | assumption | (go_simp; done)); have fwN4 : wN.cell? ⟨w.heap.size + 1 + 1 + 1 + 1, 0, none⟩ = some (.int .i64 b0) := (hcwN _ _ (by first | omega | (simp; done) | (simp; omega))).trans (by first | assumption | (go_simp; done)); have fwN5 : wN.cell? ⟨w.heap.size + 1 + 1 + 1 + 1, 1, none⟩ = some (.int .i64 b1) := (hcwN _ _ (by first | omega | (simp; done) | (simp; omega))).trans (by first | assumption | (go_simp; done)); have fwN6 : wN.cell? ⟨w.heap.size + 1 + 1 + 1 + 1, 2, none⟩ = some (.int .i64 b2) := (hcwN _ _ (by first | omega | (simp; done) | (simp; omega))).trans (by first | assumption | (go_simp; done))))
      · simp only [Exit.then]
        go_wp2_with fail
        refine (to_v (pt_v ED.out.1 ED.out.2.1 ED.out.2.2) (minus_t _ _ _ _ _ _ _ _ HQ.out HP.out)).mono ?_
        rintro e w7 ⟨rfl, hb7⟩
        obtain ⟨hc7, hf7⟩ := bcell hb7
        have hz7 := hb7.size
        try simp at hz7
        have z7_0 : w.heap.size < w7.heap.size := by omega
        have z7_1 : w.heap.size + 1 < w7.heap.size := by omega
        have z7_2 : w.heap.size + 1 + 1 < w7.heap.size := by omega
        have z7_3 : w.heap.size + 1 + 1 + 1 < w7.heap.size := by omega
        have z7_4 : w.heap.size + 1 + 1 + 1 + 1 < w7.heap.size := by omega
        have z7_5 : w1.heap.size < w7.heap.size := by omega
        have z7_6 : w2.heap.size < w7.heap.size := by omega
        have z7_7 : w4.heap.size < w7.heap.size := by omega
        have z7_8 : w5.heap.size < w7.heap.size := by omega
        have z7_9 : wS.heap.size < w7.heap.size := by omega
        go_wp2_with fail
        refine (to_v (pt_v (Int.zero_emod M) (Int.zero_emod M) (Int.zero_emod M)) (place_t _ _ _ _ _ HR.out)).mono ?_
        rintro e w8 ⟨rfl, hb8⟩
        obtain ⟨hc8, hf8⟩ := bcell hb8
        have hz8 := hb8.size
        try simp at hz8
        have z8_0 : w.heap.size < w8.heap.size := by omega
        have z8_1 : w.heap.size + 1 < w8.heap.size := by omega
        have z8_2 : w.heap.size + 1 + 1 < w8.heap.size := by omega
        have z8_3 : w.heap.size + 1 + 1 + 1 < w8.heap.size := by omega
        have z8_4 : w.heap.size + 1 + 1 + 1 + 1 < w8.heap.size := by omega
        have z8_5 : w1.heap.size < w8.heap.size := by omega
        have z8_6 : w2.heap.size < w8.heap.size := by omega
        have z8_7 : w4.heap.size < w8.heap.size := by omega
        have z8_8 : w5.heap.size < w8.heap.size := by omega
        have z8_9 : wS.heap.size < w8.heap.size := by omega
        have z8_10 : w7.heap.size < w8.heap.size := by omega
        go_wp2_with fail
        refine (to_v (pt_v EV.out.1 EV.out.2.1 EV.out.2.2) (shift_t _ _ _ _ _ _ _ _ HO.out)).mono ?_
        rintro e w9 ⟨rfl, hb9⟩
        obtain ⟨hc9, hf9⟩ := bcell hb9
        have hz9 := hb9.size
        try simp at hz9
        have z9_0 : w.heap.size < w9.heap.size := by omega
        have z9_1 : w.heap.size + 1 < w9.heap.size := by omega
        have z9_2 : w.heap.size + 1 + 1 < w9.heap.size := by omega
        have z9_3 : w.heap.size + 1 + 1 + 1 < w9.heap.size := by omega
        have z9_4 : w.heap.size + 1 + 1 + 1 + 1 < w9.heap.size := by omega
        have z9_5 : w1.heap.size < w9.heap.size := by omega
        have z9_6 : w2.heap.size < w9.heap.size := by omega
        have z9_7 : w4.heap.size < w9.heap.size := by omega
        have z9_8 : w5.heap.size < w9.heap.size := by omega
        have z9_9 : wS.heap.size < w9.heap.size := by omega
        have z9_10 : w7.heap.size < w9.heap.size := by omega
        have z9_11 : w8.heap.size < w9.heap.size := by omega
        go_wp2_with fail
        refine (to_v (pt_v EO.out.1 EO.out.2.1 EO.out.2.2) (opp_t _ _ _ _ _ HP.out)).mono ?_
        rintro e w10 ⟨rfl, hb10⟩
        obtain ⟨hc10, hf10⟩ := bcell hb10
        have hz10 := hb10.size
        try simp at hz10
        have z10_0 : w.heap.size < w10.heap.size := by omega
        have z10_1 : w.heap.size + 1 < w10.heap.size := by omega
        have z10_2 : w.heap.size + 1 + 1 < w10.heap.size := by omega
        have z10_3 : w.heap.size + 1 + 1 + 1 < w10.heap.size := by omega
        have z10_4 : w.heap.size + 1 + 1 + 1 + 1 < w10.heap.size := by omega
        have z10_5 : w1.heap.size < w10.heap.size := by omega
        have z10_6 : w2.heap.size < w10.heap.size := by omega
        have z10_7 : w4.heap.size < w10.heap.size := by omega
        have z10_8 : w5.heap.size < w10.heap.size := by omega
        have z10_9 : wS.heap.size < w10.heap.size := by omega
        have z10_10 : w7.heap.size < w10.heap.size := by omega
        have z10_11 : w8.heap.size < w10.heap.size := by omega
        have z10_12 : w9.heap.size < w10.heap.size := by omega
        go_wp2_with fail
        refine (to_v (pt_v EO.out.1 EO.out.2.1 EO.out.2.2) (minus_t _ _ _ _ _ _ _ _ HO.out HP.out)).mono ?_
        rintro e w11 ⟨rfl, hb11⟩
        obtain ⟨hc11, hf11⟩ := bcell hb11
        have hz11 := hb11.size
        try simp at hz11
        have z11_0 : w.heap.size < w11.heap.size := by omega
        have z11_1 : w.heap.size + 1 < w11.heap.size := by omega
        have z11_2 : w.heap.size + 1 + 1 < w11.heap.size := by omega
        have z11_3 : w.heap.size + 1 + 1 + 1 < w11.heap.size := by omega
        have z11_4 : w.heap.size + 1 + 1 + 1 + 1 < w11.heap.size := by omega
        have z11_5 : w1.heap.size < w11.heap.size := by omega
        have z11_6 : w2.heap.size < w11.heap.size := by omega
        have z11_7 : w4.heap.size < w11.heap.size := by omega
        have z11_8 : w5.heap.size < w11.heap.size := by omega
        have z11_9 : wS.heap.size < w11.heap.size := by omega
        have z11_10 : w7.heap.size < w11.heap.size := by omega
        have z11_11 : w8.heap.size < w11.heap.size := by omega
        have z11_12 : w9.heap.size < w11.heap.size := by omega
        have z11_13 : w10.heap.size < w11.heap.size := by omega
        go_wp2_with fail
        refine (to_v (by rw [HP.out]) (form_any _ _ _ _ _)).mono ?_
        rintro e w12 ⟨rfl, hb12⟩
        obtain ⟨hc12, hf12⟩ := bcell hb12
        have hz12 := hb12.size
        try simp at hz12
        have z12_0 : w.heap.size < w12.heap.size := by omega
        have z12_1 : w.heap.size + 1 < w12.heap.size := by omega
        have z12_2 : w.heap.size + 1 + 1 < w12.heap.size := by omega
        have z12_3 : w.heap.size + 1 + 1 + 1 < w12.heap.size := by omega
        have z12_4 : w.heap.size + 1 + 1 + 1 + 1 < w12.heap.size := by omega
        have z12_5 : w1.heap.size < w12.heap.size := by omega
        have z12_6 : w2.heap.size < w12.heap.size := by omega
        have z12_7 : w4.heap.size < w12.heap.size := by omega
        have z12_8 : w5.heap.size < w12.heap.size := by omega
        have z12_9 : wS.heap.size < w12.heap.size := by omega
        have z12_10 : w7.heap.size < w12.heap.size := by omega
        have z12_11 : w8.heap.size < w12.heap.size := by omega
        have z12_12 : w9.heap.size < w12.heap.size := by omega
        have z12_13 : w10.heap.size < w12.heap.size := by omega
        have z12_14 : w11.heap.size < w12.heap.size := by omega
        go_wp2_with fail
        refine (to_v (pt_v EF.out.1 EF.out.2.1 EF.out.2.2) (finer_t _ _ _ _ _ _ r192 HP.out (dvd192 HR.out))).mono ?_
        rintro e w13 ⟨rfl, hb13⟩
        obtain ⟨hc13, hf13⟩ := bcell hb13
        have hz13 := hb13.size
        try simp at hz13
        have z13_0 : w.heap.size < w13.heap.size := by omega
        have z13_1 : w.heap.size + 1 < w13.heap.size := by omega
        have z13_2 : w.heap.size + 1 + 1 < w13.heap.size := by omega
        have z13_3 : w.heap.size + 1 + 1 + 1 < w13.heap.size := by omega
        have z13_4 : w.heap.size + 1 + 1 + 1 + 1 < w13.heap.size := by omega
        have z13_5 : w1.heap.size < w13.heap.size := by omega
        have z13_6 : w2.heap.size < w13.heap.size := by omega
        have z13_7 : w4.heap.size < w13.heap.size := by omega
        have z13_8 : w5.heap.size < w13.heap.size := by omega
        have z13_9 : wS.heap.size < w13.heap.size := by omega
        have z13_10 : w7.heap.size < w13.heap.size := by omega
        have z13_11 : w8.heap.size < w13.heap.size := by omega
        have z13_12 : w9.heap.size < w13.heap.size := by omega
        have z13_13 : w10.heap.size < w13.heap.size := by omega
        have z13_14 : w11.heap.size < w13.heap.size := by omega
        go_wp2_with fail
        refine (to_v (ord_v EZ.out) (order_t _ _ _ _ _ _ _ _ _ HF.out HP.out)).mono ?_
        rintro e w14 ⟨rfl, hb14⟩
        obtain ⟨hc14, hf14⟩ := bcell hb14
        have hz14 := hb14.size
        try simp at hz14
        have z14_0 : w.heap.size < w14.heap.size := by omega
        have z14_1 : w.heap.size + 1 < w14.heap.size := by omega
        have z14_2 : w.heap.size + 1 + 1 < w14.heap.size := by omega
        have z14_3 : w.heap.size + 1 + 1 + 1 < w14.heap.size := by omega
        have z14_4 : w.heap.size + 1 + 1 + 1 + 1 < w14.heap.size := by omega
        have z14_5 : w1.heap.size < w14.heap.size := by omega
        have z14_6 : w2.heap.size < w14.heap.size := by omega
        have z14_7 : w4.heap.size < w14.heap.size := by omega
        have z14_8 : w5.heap.size < w14.heap.size := by omega
        have z14_9 : wS.heap.size < w14.heap.size := by omega
        have z14_10 : w7.heap.size < w14.heap.size := by omega
        have z14_11 : w8.heap.size < w14.heap.size := by omega
        have z14_12 : w9.heap.size < w14.heap.size := by omega
        have z14_13 : w10.heap.size < w14.heap.size := by omega
        have z14_14 : w11.heap.size < w14.heap.size := by omega
        have z14_15 : w13.heap.size < w14.heap.size := by omega
        go_wp2_with fail
        refine (to_v (ord_v ER.out) (order_t _ _ _ _ _ _ _ _ _ HP.out HQ.out)).mono ?_
        rintro e w15 ⟨rfl, hb15⟩
        obtain ⟨hc15, hf15⟩ := bcell hb15
        have hz15 := hb15.size
        try simp at hz15
        have z15_0 : w.heap.size < w15.heap.size := by omega
        have z15_1 : w.heap.size + 1 < w15.heap.size := by omega
        have z15_2 : w.heap.size + 1 + 1 < w15.heap.size := by omega
        have z15_3 : w.heap.size + 1 + 1 + 1 < w15.heap.size := by omega
        have z15_4 : w.heap.size + 1 + 1 + 1 + 1 < w15.heap.size := by omega
        have z15_5 : w1.heap.size < w15.heap.size := by omega
        have z15_6 : w2.heap.size < w15.heap.size := by omega
        have z15_7 : w4.heap.size < w15.heap.size := by omega
        have z15_8 : w5.heap.size < w15.heap.size := by omega
        have z15_9 : wS.heap.size < w15.heap.size := by omega
        have z15_10 : w7.heap.size < w15.heap.size := by omega
        have z15_11 : w8.heap.size < w15.heap.size := by omega
        have z15_12 : w9.heap.size < w15.heap.size := by omega
        have z15_13 : w10.heap.size < w15.heap.size := by omega
        have z15_14 : w11.heap.size < w15.heap.size := by omega
        have z15_15 : w13.heap.size < w15.heap.size := by omega
        go_wp2_with fail
        refine (to_v (ord_v ES.out) (order_t _ _ _ _ _ _ _ _ _ HQ.out HP.out)).mono ?_
        rintro e w16 ⟨rfl, hb16⟩
        obtain ⟨hc16, hf16⟩ := bcell hb16
        have hz16 := hb16.size
        try simp at hz16
        have z16_0 : w.heap.size < w16.heap.size := by omega
        have z16_1 : w.heap.size + 1 < w16.heap.size := by omega
        have z16_2 : w.heap.size + 1 + 1 < w16.heap.size := by omega
        have z16_3 : w.heap.size + 1 + 1 + 1 < w16.heap.size := by omega
        have z16_4 : w.heap.size + 1 + 1 + 1 + 1 < w16.heap.size := by omega
        have z16_5 : w1.heap.size < w16.heap.size := by omega
        have z16_6 : w2.heap.size < w16.heap.size := by omega
        have z16_7 : w4.heap.size < w16.heap.size := by omega
        have z16_8 : w5.heap.size < w16.heap.size := by omega
        have z16_9 : wS.heap.size < w16.heap.size := by omega
        have z16_10 : w7.heap.size < w16.heap.size := by omega
        have z16_11 : w8.heap.size < w16.heap.size := by omega
        have z16_12 : w9.heap.size < w16.heap.size := by omega
        have z16_13 : w10.heap.size < w16.heap.size := by omega
        have z16_14 : w11.heap.size < w16.heap.size := by omega
        have z16_15 : w13.heap.size < w16.heap.size := by omega
        go_wp2
        go_ret
        refine ⟨rfl, ?_⟩
        repeat (first | exact Below.refl _ _ | assumption | exact Below.alloc (Below.refl _ _) (Nat.le_refl _) _ | refine Below.setCell ?_ (by first | (simp; done) | (simp; omega) | omega) _ | refine below_drewN ?_ _ | refine Below.alloc ?_ (by first | (simp; done) | (simp; omega) | omega) _ | refine Below.trans ?_ (Below.mono (by assumption) (by first | (simp; done) | (simp; omega) | omega)))
      · simp only [Exit.then]
        go_wp2_with fail
        refine (to_v (pt_v ED.out.1 ED.out.2.1 ED.out.2.2) (minus_t _ _ _ _ _ _ _ _ HQ.out HP.out)).mono ?_
        rintro e w7 ⟨rfl, hb7⟩
        obtain ⟨hc7, hf7⟩ := bcell hb7
        have hz7 := hb7.size
        try simp at hz7
        have z7_0 : w.heap.size < w7.heap.size := by omega
        have z7_1 : w.heap.size + 1 < w7.heap.size := by omega
        have z7_2 : w.heap.size + 1 + 1 < w7.heap.size := by omega
        have z7_3 : w.heap.size + 1 + 1 + 1 < w7.heap.size := by omega
        have z7_4 : w.heap.size + 1 + 1 + 1 + 1 < w7.heap.size := by omega
        have z7_5 : w1.heap.size < w7.heap.size := by omega
        have z7_6 : w2.heap.size < w7.heap.size := by omega
        have z7_7 : w4.heap.size < w7.heap.size := by omega
        have z7_8 : w5.heap.size < w7.heap.size := by omega
        have z7_9 : wN.heap.size < w7.heap.size := by omega
        go_wp2_with fail
        refine (to_v (pt_v (Int.zero_emod M) (Int.zero_emod M) (Int.zero_emod M)) (place_t _ _ _ _ _ HR.out)).mono ?_
        rintro e w8 ⟨rfl, hb8⟩
        obtain ⟨hc8, hf8⟩ := bcell hb8
        have hz8 := hb8.size
        try simp at hz8
        have z8_0 : w.heap.size < w8.heap.size := by omega
        have z8_1 : w.heap.size + 1 < w8.heap.size := by omega
        have z8_2 : w.heap.size + 1 + 1 < w8.heap.size := by omega
        have z8_3 : w.heap.size + 1 + 1 + 1 < w8.heap.size := by omega
        have z8_4 : w.heap.size + 1 + 1 + 1 + 1 < w8.heap.size := by omega
        have z8_5 : w1.heap.size < w8.heap.size := by omega
        have z8_6 : w2.heap.size < w8.heap.size := by omega
        have z8_7 : w4.heap.size < w8.heap.size := by omega
        have z8_8 : w5.heap.size < w8.heap.size := by omega
        have z8_9 : wN.heap.size < w8.heap.size := by omega
        have z8_10 : w7.heap.size < w8.heap.size := by omega
        go_wp2_with fail
        refine (to_v (pt_v EV.out.1 EV.out.2.1 EV.out.2.2) (shift_t _ _ _ _ _ _ _ _ HO.out)).mono ?_
        rintro e w9 ⟨rfl, hb9⟩
        obtain ⟨hc9, hf9⟩ := bcell hb9
        have hz9 := hb9.size
        try simp at hz9
        have z9_0 : w.heap.size < w9.heap.size := by omega
        have z9_1 : w.heap.size + 1 < w9.heap.size := by omega
        have z9_2 : w.heap.size + 1 + 1 < w9.heap.size := by omega
        have z9_3 : w.heap.size + 1 + 1 + 1 < w9.heap.size := by omega
        have z9_4 : w.heap.size + 1 + 1 + 1 + 1 < w9.heap.size := by omega
        have z9_5 : w1.heap.size < w9.heap.size := by omega
        have z9_6 : w2.heap.size < w9.heap.size := by omega
        have z9_7 : w4.heap.size < w9.heap.size := by omega
        have z9_8 : w5.heap.size < w9.heap.size := by omega
        have z9_9 : wN.heap.size < w9.heap.size := by omega
        have z9_10 : w7.heap.size < w9.heap.size := by omega
        have z9_11 : w8.heap.size < w9.heap.size := by omega
        go_wp2_with fail
        refine (to_v (pt_v EO.out.1 EO.out.2.1 EO.out.2.2) (opp_t _ _ _ _ _ HP.out)).mono ?_
        rintro e w10 ⟨rfl, hb10⟩
        obtain ⟨hc10, hf10⟩ := bcell hb10
        have hz10 := hb10.size
        try simp at hz10
        have z10_0 : w.heap.size < w10.heap.size := by omega
        have z10_1 : w.heap.size + 1 < w10.heap.size := by omega
        have z10_2 : w.heap.size + 1 + 1 < w10.heap.size := by omega
        have z10_3 : w.heap.size + 1 + 1 + 1 < w10.heap.size := by omega
        have z10_4 : w.heap.size + 1 + 1 + 1 + 1 < w10.heap.size := by omega
        have z10_5 : w1.heap.size < w10.heap.size := by omega
        have z10_6 : w2.heap.size < w10.heap.size := by omega
        have z10_7 : w4.heap.size < w10.heap.size := by omega
        have z10_8 : w5.heap.size < w10.heap.size := by omega
        have z10_9 : wN.heap.size < w10.heap.size := by omega
        have z10_10 : w7.heap.size < w10.heap.size := by omega
        have z10_11 : w8.heap.size < w10.heap.size := by omega
        have z10_12 : w9.heap.size < w10.heap.size := by omega
        go_wp2_with fail
        refine (to_v (pt_v EO.out.1 EO.out.2.1 EO.out.2.2) (minus_t _ _ _ _ _ _ _ _ HO.out HP.out)).mono ?_
        rintro e w11 ⟨rfl, hb11⟩
        obtain ⟨hc11, hf11⟩ := bcell hb11
        have hz11 := hb11.size
        try simp at hz11
        have z11_0 : w.heap.size < w11.heap.size := by omega
        have z11_1 : w.heap.size + 1 < w11.heap.size := by omega
        have z11_2 : w.heap.size + 1 + 1 < w11.heap.size := by omega
        have z11_3 : w.heap.size + 1 + 1 + 1 < w11.heap.size := by omega
        have z11_4 : w.heap.size + 1 + 1 + 1 + 1 < w11.heap.size := by omega
        have z11_5 : w1.heap.size < w11.heap.size := by omega
        have z11_6 : w2.heap.size < w11.heap.size := by omega
        have z11_7 : w4.heap.size < w11.heap.size := by omega
        have z11_8 : w5.heap.size < w11.heap.size := by omega
        have z11_9 : wN.heap.size < w11.heap.size := by omega
        have z11_10 : w7.heap.size < w11.heap.size := by omega
        have z11_11 : w8.heap.size < w11.heap.size := by omega
        have z11_12 : w9.heap.size < w11.heap.size := by omega
        have z11_13 : w10.heap.size < w11.heap.size := by omega
        go_wp2_with fail
        refine (to_v (by rw [HP.out]) (form_any _ _ _ _ _)).mono ?_
        rintro e w12 ⟨rfl, hb12⟩
        obtain ⟨hc12, hf12⟩ := bcell hb12
        have hz12 := hb12.size
        try simp at hz12
        have z12_0 : w.heap.size < w12.heap.size := by omega
        have z12_1 : w.heap.size + 1 < w12.heap.size := by omega
        have z12_2 : w.heap.size + 1 + 1 < w12.heap.size := by omega
        have z12_3 : w.heap.size + 1 + 1 + 1 < w12.heap.size := by omega
        have z12_4 : w.heap.size + 1 + 1 + 1 + 1 < w12.heap.size := by omega
        have z12_5 : w1.heap.size < w12.heap.size := by omega
        have z12_6 : w2.heap.size < w12.heap.size := by omega
        have z12_7 : w4.heap.size < w12.heap.size := by omega
        have z12_8 : w5.heap.size < w12.heap.size := by omega
        have z12_9 : wN.heap.size < w12.heap.size := by omega
        have z12_10 : w7.heap.size < w12.heap.size := by omega
        have z12_11 : w8.heap.size < w12.heap.size := by omega
        have z12_12 : w9.heap.size < w12.heap.size := by omega
        have z12_13 : w10.heap.size < w12.heap.size := by omega
        have z12_14 : w11.heap.size < w12.heap.size := by omega
        go_wp2_with fail
        refine (to_v (pt_v EF.out.1 EF.out.2.1 EF.out.2.2) (finer_t _ _ _ _ _ _ r192 HP.out (dvd192 HR.out))).mono ?_
        rintro e w13 ⟨rfl, hb13⟩
        obtain ⟨hc13, hf13⟩ := bcell hb13
        have hz13 := hb13.size
        try simp at hz13
        have z13_0 : w.heap.size < w13.heap.size := by omega
        have z13_1 : w.heap.size + 1 < w13.heap.size := by omega
        have z13_2 : w.heap.size + 1 + 1 < w13.heap.size := by omega
        have z13_3 : w.heap.size + 1 + 1 + 1 < w13.heap.size := by omega
        have z13_4 : w.heap.size + 1 + 1 + 1 + 1 < w13.heap.size := by omega
        have z13_5 : w1.heap.size < w13.heap.size := by omega
        have z13_6 : w2.heap.size < w13.heap.size := by omega
        have z13_7 : w4.heap.size < w13.heap.size := by omega
        have z13_8 : w5.heap.size < w13.heap.size := by omega
        have z13_9 : wN.heap.size < w13.heap.size := by omega
        have z13_10 : w7.heap.size < w13.heap.size := by omega
        have z13_11 : w8.heap.size < w13.heap.size := by omega
        have z13_12 : w9.heap.size < w13.heap.size := by omega
        have z13_13 : w10.heap.size < w13.heap.size := by omega
        have z13_14 : w11.heap.size < w13.heap.size := by omega
        go_wp2_with fail
        refine (to_v (ord_v EZ.out) (order_t _ _ _ _ _ _ _ _ _ HF.out HP.out)).mono ?_
        rintro e w14 ⟨rfl, hb14⟩
        obtain ⟨hc14, hf14⟩ := bcell hb14
        have hz14 := hb14.size
        try simp at hz14
        have z14_0 : w.heap.size < w14.heap.size := by omega
        have z14_1 : w.heap.size + 1 < w14.heap.size := by omega
        have z14_2 : w.heap.size + 1 + 1 < w14.heap.size := by omega
        have z14_3 : w.heap.size + 1 + 1 + 1 < w14.heap.size := by omega
        have z14_4 : w.heap.size + 1 + 1 + 1 + 1 < w14.heap.size := by omega
        have z14_5 : w1.heap.size < w14.heap.size := by omega
        have z14_6 : w2.heap.size < w14.heap.size := by omega
        have z14_7 : w4.heap.size < w14.heap.size := by omega
        have z14_8 : w5.heap.size < w14.heap.size := by omega
        have z14_9 : wN.heap.size < w14.heap.size := by omega
        have z14_10 : w7.heap.size < w14.heap.size := by omega
        have z14_11 : w8.heap.size < w14.heap.size := by omega
        have z14_12 : w9.heap.size < w14.heap.size := by omega
        have z14_13 : w10.heap.size < w14.heap.size := by omega
        have z14_14 : w11.heap.size < w14.heap.size := by omega
        have z14_15 : w13.heap.size < w14.heap.size := by omega
        go_wp2_with fail
        refine (to_v (ord_v ER.out) (order_t _ _ _ _ _ _ _ _ _ HP.out HQ.out)).mono ?_
        rintro e w15 ⟨rfl, hb15⟩
        obtain ⟨hc15, hf15⟩ := bcell hb15
        have hz15 := hb15.size
        try simp at hz15
        have z15_0 : w.heap.size < w15.heap.size := by omega
        have z15_1 : w.heap.size + 1 < w15.heap.size := by omega
        have z15_2 : w.heap.size + 1 + 1 < w15.heap.size := by omega
        have z15_3 : w.heap.size + 1 + 1 + 1 < w15.heap.size := by omega
        have z15_4 : w.heap.size + 1 + 1 + 1 + 1 < w15.heap.size := by omega
        have z15_5 : w1.heap.size < w15.heap.size := by omega
        have z15_6 : w2.heap.size < w15.heap.size := by omega
        have z15_7 : w4.heap.size < w15.heap.size := by omega
        have z15_8 : w5.heap.size < w15.heap.size := by omega
        have z15_9 : wN.heap.size < w15.heap.size := by omega
        have z15_10 : w7.heap.size < w15.heap.size := by omega
        have z15_11 : w8.heap.size < w15.heap.size := by omega
        have z15_12 : w9.heap.size < w15.heap.size := by omega
        have z15_13 : w10.heap.size < w15.heap.size := by omega
        have z15_14 : w11.heap.size < w15.heap.size := by omega
        have z15_15 : w13.heap.size < w15.heap.size := by omega
        go_wp2_with fail
        refine (to_v (ord_v ES.out) (order_t _ _ _ _ _ _ _ _ _ HQ.out HP.out)).mono ?_
        rintro e w16 ⟨rfl, hb16⟩
        obtain ⟨hc16, hf16⟩ := bcell hb16
        have hz16 := hb16.size
        try simp at hz16
        have z16_0 : w.heap.size < w16.heap.size := by omega
        have z16_1 : w.heap.size + 1 < w16.heap.size := by omega
        have z16_2 : w.heap.size + 1 + 1 < w16.heap.size := by omega
        have z16_3 : w.heap.size + 1 + 1 + 1 < w16.heap.size := by omega
        have z16_4 : w.heap.size + 1 + 1 + 1 + 1 < w16.heap.size := by omega
        have z16_5 : w1.heap.size < w16.heap.size := by omega
        have z16_6 : w2.heap.size < w16.heap.size := by omega
        have z16_7 : w4.heap.size < w16.heap.size := by omega
        have z16_8 : w5.heap.size < w16.heap.size := by omega
        have z16_9 : wN.heap.size < w16.heap.size := by omega
        have z16_10 : w7.heap.size < w16.heap.size := by omega
        have z16_11 : w8.heap.size < w16.heap.size := by omega
        have z16_12 : w9.heap.size < w16.heap.size := by omega
        have z16_13 : w10.heap.size < w16.heap.size := by omega
        have z16_14 : w11.heap.size < w16.heap.size := by omega
        have z16_15 : w13.heap.size < w16.heap.size := by omega
        go_wp2
        go_ret
        refine ⟨rfl, ?_⟩
        repeat (first | exact Below.refl _ _ | assumption | exact Below.alloc (Below.refl _ _) (Nat.le_refl _) _ | refine Below.setCell ?_ (by first | (simp; done) | (simp; omega) | omega) _ | refine below_drewN ?_ _ | refine Below.alloc ?_ (by first | (simp; done) | (simp; omega) | omega) _ | refine Below.trans ?_ (Below.mono (by assumption) (by first | (simp; done) | (simp; omega) | omega)))
      · simp only [Exit.then]
        have nn0 : ¬ (w5.heap.size + 1 = w.heap.size) := by omega
        have nn1 : ¬ (w5.heap.size + 1 = w.heap.size + 1) := by omega
        have nn2 : ¬ (w5.heap.size + 1 = w.heap.size + 1 + 1) := by omega
        have nn3 : ¬ (w5.heap.size + 1 = w.heap.size + 1 + 1 + 1) := by omega
        have nn4 : ¬ (w5.heap.size + 1 = w.heap.size + 1 + 1 + 1 + 1) := by omega
        have nn5 : ¬ (w5.heap.size + 1 = w1.heap.size) := by omega
        have nn6 : ¬ (w5.heap.size + 1 = w2.heap.size) := by omega
        have nn7 : ¬ (w5.heap.size + 1 = w4.heap.size) := by omega
        have nn8 : ¬ (w5.heap.size + 1 = w5.heap.size) := by omega
        have nm0 : ¬ (w.heap.size = w5.heap.size + 1) := by omega
        have nm1 : ¬ (w.heap.size + 1 = w5.heap.size + 1) := by omega
        have nm2 : ¬ (w.heap.size + 1 + 1 = w5.heap.size + 1) := by omega
        have nm3 : ¬ (w.heap.size + 1 + 1 + 1 = w5.heap.size + 1) := by omega
        have nm4 : ¬ (w.heap.size + 1 + 1 + 1 + 1 = w5.heap.size + 1) := by omega
        have nm5 : ¬ (w1.heap.size = w5.heap.size + 1) := by omega
        have nm6 : ¬ (w2.heap.size = w5.heap.size + 1) := by omega
        have nm7 : ¬ (w4.heap.size = w5.heap.size + 1) := by omega
        have nm8 : ¬ (w5.heap.size = w5.heap.size + 1) := by omega
        have nx0 : w.heap.size < w5.heap.size + 1 + 1 := by omega
        have ny0 : w.heap.size ≤ w5.heap.size + 1 := by omega
        have nz0 : w.heap.size < w5.heap.size + 1 := by omega
        have nu0 : w.heap.size ≤ w5.heap.size := by omega
        have nx1 : w.heap.size + 1 < w5.heap.size + 1 + 1 := by omega
        have ny1 : w.heap.size + 1 ≤ w5.heap.size + 1 := by omega
        have nz1 : w.heap.size + 1 < w5.heap.size + 1 := by omega
        have nu1 : w.heap.size + 1 ≤ w5.heap.size := by omega
        have nx2 : w.heap.size + 1 + 1 < w5.heap.size + 1 + 1 := by omega
        have ny2 : w.heap.size + 1 + 1 ≤ w5.heap.size + 1 := by omega
        have nz2 : w.heap.size + 1 + 1 < w5.heap.size + 1 := by omega
        have nu2 : w.heap.size + 1 + 1 ≤ w5.heap.size := by omega
        have nx3 : w.heap.size + 1 + 1 + 1 < w5.heap.size + 1 + 1 := by omega
        have ny3 : w.heap.size + 1 + 1 + 1 ≤ w5.heap.size + 1 := by omega
        have nz3 : w.heap.size + 1 + 1 + 1 < w5.heap.size + 1 := by omega
        have nu3 : w.heap.size + 1 + 1 + 1 ≤ w5.heap.size := by omega
        have nx4 : w.heap.size + 1 + 1 + 1 + 1 < w5.heap.size + 1 + 1 := by omega
        have ny4 : w.heap.size + 1 + 1 + 1 + 1 ≤ w5.heap.size + 1 := by omega
        have nz4 : w.heap.size + 1 + 1 + 1 + 1 < w5.heap.size + 1 := by omega
        have nu4 : w.heap.size + 1 + 1 + 1 + 1 ≤ w5.heap.size := by omega
        have nx5 : w1.heap.size < w5.heap.size + 1 + 1 := by omega
        have ny5 : w1.heap.size ≤ w5.heap.size + 1 := by omega
        have nz5 : w1.heap.size < w5.heap.size + 1 := by omega
        have nu5 : w1.heap.size ≤ w5.heap.size := by omega
        have nx6 : w2.heap.size < w5.heap.size + 1 + 1 := by omega
        have ny6 : w2.heap.size ≤ w5.heap.size + 1 := by omega
        have nz6 : w2.heap.size < w5.heap.size + 1 := by omega
        have nu6 : w2.heap.size ≤ w5.heap.size := by omega
        have nx7 : w4.heap.size < w5.heap.size + 1 + 1 := by omega
        have ny7 : w4.heap.size ≤ w5.heap.size + 1 := by omega
        have nz7 : w4.heap.size < w5.heap.size + 1 := by omega
        have nu7 : w4.heap.size ≤ w5.heap.size := by omega
        have nx8 : w5.heap.size < w5.heap.size + 1 + 1 := by omega
        have ny8 : w5.heap.size ≤ w5.heap.size + 1 := by omega
        have nz8 : w5.heap.size < w5.heap.size + 1 := by omega
        have nu8 : w5.heap.size ≤ w5.heap.size := by omega
        go_wp2_with fail
        refine (to_v (pt_v ED.out.1 ED.out.2.1 ED.out.2.2) (minus_t _ _ _ _ _ _ _ _ HQ.out HP.out)).mono ?_
        rintro e w7 ⟨rfl, hb7⟩
        obtain ⟨hc7, hf7⟩ := bcell hb7
        have hz7 := hb7.size
        try simp at hz7
        have z7_0 : w.heap.size < w7.heap.size := by omega
        have z7_1 : w.heap.size + 1 < w7.heap.size := by omega
        have z7_2 : w.heap.size + 1 + 1 < w7.heap.size := by omega
        have z7_3 : w.heap.size + 1 + 1 + 1 < w7.heap.size := by omega
        have z7_4 : w.heap.size + 1 + 1 + 1 + 1 < w7.heap.size := by omega
        have z7_5 : w1.heap.size < w7.heap.size := by omega
        have z7_6 : w2.heap.size < w7.heap.size := by omega
        have z7_7 : w4.heap.size < w7.heap.size := by omega
        have z7_8 : w5.heap.size < w7.heap.size := by omega
        have z7_9 : w5.heap.size + 1 < w7.heap.size := by omega
        go_wp2_with fail
        refine (to_v (pt_v (Int.zero_emod M) (Int.zero_emod M) (Int.zero_emod M)) (place_t _ _ _ _ _ HR.out)).mono ?_
        rintro e w8 ⟨rfl, hb8⟩
        obtain ⟨hc8, hf8⟩ := bcell hb8
        have hz8 := hb8.size
        try simp at hz8
        have z8_0 : w.heap.size < w8.heap.size := by omega
        have z8_1 : w.heap.size + 1 < w8.heap.size := by omega
        have z8_2 : w.heap.size + 1 + 1 < w8.heap.size := by omega
        have z8_3 : w.heap.size + 1 + 1 + 1 < w8.heap.size := by omega
        have z8_4 : w.heap.size + 1 + 1 + 1 + 1 < w8.heap.size := by omega
        have z8_5 : w1.heap.size < w8.heap.size := by omega
        have z8_6 : w2.heap.size < w8.heap.size := by omega
        have z8_7 : w4.heap.size < w8.heap.size := by omega
        have z8_8 : w5.heap.size < w8.heap.size := by omega
        have z8_9 : w5.heap.size + 1 < w8.heap.size := by omega
        have z8_10 : w7.heap.size < w8.heap.size := by omega
        go_wp2_with fail
        refine (to_v (pt_v EV.out.1 EV.out.2.1 EV.out.2.2) (shift_t _ _ _ _ _ _ _ _ HO.out)).mono ?_
        rintro e w9 ⟨rfl, hb9⟩
        obtain ⟨hc9, hf9⟩ := bcell hb9
        have hz9 := hb9.size
        try simp at hz9
        have z9_0 : w.heap.size < w9.heap.size := by omega
        have z9_1 : w.heap.size + 1 < w9.heap.size := by omega
        have z9_2 : w.heap.size + 1 + 1 < w9.heap.size := by omega
        have z9_3 : w.heap.size + 1 + 1 + 1 < w9.heap.size := by omega
        have z9_4 : w.heap.size + 1 + 1 + 1 + 1 < w9.heap.size := by omega
        have z9_5 : w1.heap.size < w9.heap.size := by omega
        have z9_6 : w2.heap.size < w9.heap.size := by omega
        have z9_7 : w4.heap.size < w9.heap.size := by omega
        have z9_8 : w5.heap.size < w9.heap.size := by omega
        have z9_9 : w5.heap.size + 1 < w9.heap.size := by omega
        have z9_10 : w7.heap.size < w9.heap.size := by omega
        have z9_11 : w8.heap.size < w9.heap.size := by omega
        go_wp2_with fail
        refine (to_v (pt_v EO.out.1 EO.out.2.1 EO.out.2.2) (opp_t _ _ _ _ _ HP.out)).mono ?_
        rintro e w10 ⟨rfl, hb10⟩
        obtain ⟨hc10, hf10⟩ := bcell hb10
        have hz10 := hb10.size
        try simp at hz10
        have z10_0 : w.heap.size < w10.heap.size := by omega
        have z10_1 : w.heap.size + 1 < w10.heap.size := by omega
        have z10_2 : w.heap.size + 1 + 1 < w10.heap.size := by omega
        have z10_3 : w.heap.size + 1 + 1 + 1 < w10.heap.size := by omega
        have z10_4 : w.heap.size + 1 + 1 + 1 + 1 < w10.heap.size := by omega
        have z10_5 : w1.heap.size < w10.heap.size := by omega
        have z10_6 : w2.heap.size < w10.heap.size := by omega
        have z10_7 : w4.heap.size < w10.heap.size := by omega
        have z10_8 : w5.heap.size < w10.heap.size := by omega
        have z10_9 : w5.heap.size + 1 < w10.heap.size := by omega
        have z10_10 : w7.heap.size < w10.heap.size := by omega
        have z10_11 : w8.heap.size < w10.heap.size := by omega
        have z10_12 : w9.heap.size < w10.heap.size := by omega
        go_wp2_with fail
        refine (to_v (pt_v EO.out.1 EO.out.2.1 EO.out.2.2) (minus_t _ _ _ _ _ _ _ _ HO.out HP.out)).mono ?_
        rintro e w11 ⟨rfl, hb11⟩
        obtain ⟨hc11, hf11⟩ := bcell hb11
        have hz11 := hb11.size
        try simp at hz11
        have z11_0 : w.heap.size < w11.heap.size := by omega
        have z11_1 : w.heap.size + 1 < w11.heap.size := by omega
        have z11_2 : w.heap.size + 1 + 1 < w11.heap.size := by omega
        have z11_3 : w.heap.size + 1 + 1 + 1 < w11.heap.size := by omega
        have z11_4 : w.heap.size + 1 + 1 + 1 + 1 < w11.heap.size := by omega
        have z11_5 : w1.heap.size < w11.heap.size := by omega
        have z11_6 : w2.heap.size < w11.heap.size := by omega
        have z11_7 : w4.heap.size < w11.heap.size := by omega
        have z11_8 : w5.heap.size < w11.heap.size := by omega
        have z11_9 : w5.heap.size + 1 < w11.heap.size := by omega
        have z11_10 : w7.heap.size < w11.heap.size := by omega
        have z11_11 : w8.heap.size < w11.heap.size := by omega
        have z11_12 : w9.heap.size < w11.heap.size := by omega
        have z11_13 : w10.heap.size < w11.heap.size := by omega
        go_wp2_with fail
        refine (to_v (by rw [HP.out]) (form_any _ _ _ _ _)).mono ?_
        rintro e w12 ⟨rfl, hb12⟩
        obtain ⟨hc12, hf12⟩ := bcell hb12
        have hz12 := hb12.size
        try simp at hz12
        have z12_0 : w.heap.size < w12.heap.size := by omega
        have z12_1 : w.heap.size + 1 < w12.heap.size := by omega
        have z12_2 : w.heap.size + 1 + 1 < w12.heap.size := by omega
        have z12_3 : w.heap.size + 1 + 1 + 1 < w12.heap.size := by omega
        have z12_4 : w.heap.size + 1 + 1 + 1 + 1 < w12.heap.size := by omega
        have z12_5 : w1.heap.size < w12.heap.size := by omega
        have z12_6 : w2.heap.size < w12.heap.size := by omega
        have z12_7 : w4.heap.size < w12.heap.size := by omega
        have z12_8 : w5.heap.size < w12.heap.size := by omega
        have z12_9 : w5.heap.size + 1 < w12.heap.size := by omega
        have z12_10 : w7.heap.size < w12.heap.size := by omega
        have z12_11 : w8.heap.size < w12.heap.size := by omega
        have z12_12 : w9.heap.size < w12.heap.size := by omega
        have z12_13 : w10.heap.size < w12.heap.size := by omega
        have z12_14 : w11.heap.size < w12.heap.size := by omega
        go_wp2_with fail
        refine (to_v (pt_v EF.out.1 EF.out.2.1 EF.out.2.2) (finer_t _ _ _ _ _ _ r192 HP.out (dvd192 HR.out))).mono ?_
        rintro e w13 ⟨rfl, hb13⟩
        obtain ⟨hc13, hf13⟩ := bcell hb13
        have hz13 := hb13.size
        try simp at hz13
        have z13_0 : w.heap.size < w13.heap.size := by omega
        have z13_1 : w.heap.size + 1 < w13.heap.size := by omega
        have z13_2 : w.heap.size + 1 + 1 < w13.heap.size := by omega
        have z13_3 : w.heap.size + 1 + 1 + 1 < w13.heap.size := by omega
        have z13_4 : w.heap.size + 1 + 1 + 1 + 1 < w13.heap.size := by omega
        have z13_5 : w1.heap.size < w13.heap.size := by omega
        have z13_6 : w2.heap.size < w13.heap.size := by omega
        have z13_7 : w4.heap.size < w13.heap.size := by omega
        have z13_8 : w5.heap.size < w13.heap.size := by omega
        have z13_9 : w5.heap.size + 1 < w13.heap.size := by omega
        have z13_10 : w7.heap.size < w13.heap.size := by omega
        have z13_11 : w8.heap.size < w13.heap.size := by omega
        have z13_12 : w9.heap.size < w13.heap.size := by omega
        have z13_13 : w10.heap.size < w13.heap.size := by omega
        have z13_14 : w11.heap.size < w13.heap.size := by omega
        go_wp2_with fail
        refine (to_v (ord_v EZ.out) (order_t _ _ _ _ _ _ _ _ _ HF.out HP.out)).mono ?_
        rintro e w14 ⟨rfl, hb14⟩
        obtain ⟨hc14, hf14⟩ := bcell hb14
        have hz14 := hb14.size
        try simp at hz14
        have z14_0 : w.heap.size < w14.heap.size := by omega
        have z14_1 : w.heap.size + 1 < w14.heap.size := by omega
        have z14_2 : w.heap.size + 1 + 1 < w14.heap.size := by omega
        have z14_3 : w.heap.size + 1 + 1 + 1 < w14.heap.size := by omega
        have z14_4 : w.heap.size + 1 + 1 + 1 + 1 < w14.heap.size := by omega
        have z14_5 : w1.heap.size < w14.heap.size := by omega
        have z14_6 : w2.heap.size < w14.heap.size := by omega
        have z14_7 : w4.heap.size < w14.heap.size := by omega
        have z14_8 : w5.heap.size < w14.heap.size := by omega
        have z14_9 : w5.heap.size + 1 < w14.heap.size := by omega
        have z14_10 : w7.heap.size < w14.heap.size := by omega
        have z14_11 : w8.heap.size < w14.heap.size := by omega
        have z14_12 : w9.heap.size < w14.heap.size := by omega
        have z14_13 : w10.heap.size < w14.heap.size := by omega
        have z14_14 : w11.heap.size < w14.heap.size := by omega
        have z14_15 : w13.heap.size < w14.heap.size := by omega
        go_wp2_with fail
        refine (to_v (ord_v ER.out) (order_t _ _ _ _ _ _ _ _ _ HP.out HQ.out)).mono ?_
        rintro e w15 ⟨rfl, hb15⟩
        obtain ⟨hc15, hf15⟩ := bcell hb15
        have hz15 := hb15.size
        try simp at hz15
        have z15_0 : w.heap.size < w15.heap.size := by omega
        have z15_1 : w.heap.size + 1 < w15.heap.size := by omega
        have z15_2 : w.heap.size + 1 + 1 < w15.heap.size := by omega
        have z15_3 : w.heap.size + 1 + 1 + 1 < w15.heap.size := by omega
        have z15_4 : w.heap.size + 1 + 1 + 1 + 1 < w15.heap.size := by omega
        have z15_5 : w1.heap.size < w15.heap.size := by omega
        have z15_6 : w2.heap.size < w15.heap.size := by omega
        have z15_7 : w4.heap.size < w15.heap.size := by omega
        have z15_8 : w5.heap.size < w15.heap.size := by omega
        have z15_9 : w5.heap.size + 1 < w15.heap.size := by omega
        have z15_10 : w7.heap.size < w15.heap.size := by omega
        have z15_11 : w8.heap.size < w15.heap.size := by omega
        have z15_12 : w9.heap.size < w15.heap.size := by omega
        have z15_13 : w10.heap.size < w15.heap.size := by omega
        have z15_14 : w11.heap.size < w15.heap.size := by omega
        have z15_15 : w13.heap.size < w15.heap.size := by omega
        go_wp2_with fail
        refine (to_v (ord_v ES.out) (order_t _ _ _ _ _ _ _ _ _ HQ.out HP.out)).mono ?_
        rintro e w16 ⟨rfl, hb16⟩
        obtain ⟨hc16, hf16⟩ := bcell hb16
        have hz16 := hb16.size
        try simp at hz16
        have z16_0 : w.heap.size < w16.heap.size := by omega
        have z16_1 : w.heap.size + 1 < w16.heap.size := by omega
        have z16_2 : w.heap.size + 1 + 1 < w16.heap.size := by omega
        have z16_3 : w.heap.size + 1 + 1 + 1 < w16.heap.size := by omega
        have z16_4 : w.heap.size + 1 + 1 + 1 + 1 < w16.heap.size := by omega
        have z16_5 : w1.heap.size < w16.heap.size := by omega
        have z16_6 : w2.heap.size < w16.heap.size := by omega
        have z16_7 : w4.heap.size < w16.heap.size := by omega
        have z16_8 : w5.heap.size < w16.heap.size := by omega
        have z16_9 : w5.heap.size + 1 < w16.heap.size := by omega
        have z16_10 : w7.heap.size < w16.heap.size := by omega
        have z16_11 : w8.heap.size < w16.heap.size := by omega
        have z16_12 : w9.heap.size < w16.heap.size := by omega
        have z16_13 : w10.heap.size < w16.heap.size := by omega
        have z16_14 : w11.heap.size < w16.heap.size := by omega
        have z16_15 : w13.heap.size < w16.heap.size := by omega
        go_wp2
        go_ret
        refine ⟨rfl, ?_⟩
        repeat (first | exact Below.refl _ _ | assumption | exact Below.alloc (Below.refl _ _) (Nat.le_refl _) _ | refine Below.setCell ?_ (by first | (simp; done) | (simp; omega) | omega) _ | refine below_drewN ?_ _ | refine Below.alloc ?_ (by first | (simp; done) | (simp; omega) | omega) _ | refine Below.trans ?_ (Below.mono (by assumption) (by first | (simp; done) | (simp; omega) | omega)))

set_option maxHeartbeats 6400000 in
set_option maxRecDepth 100000 in
theorem whole_n (a0 a1 a2 b0 b1 b2 k x0 x1 x2 n : Int) (M p0 p1 p2 q0 q1 q2 d0 d1 d2 o0 o1 o2 f0 f1 f2 : Int) (w : World) (a0_1 : -32768 ≤ a0) (a0_2 : a0 ≤ 32767) (a1_1 : -32768 ≤ a1) (a1_2 : a1 ≤ 32767) (a2_1 : -32768 ≤ a2) (a2_2 : a2 ≤ 32767) (b0_1 : -32768 ≤ b0) (b0_2 : b0 ≤ 32767) (b1_1 : -32768 ≤ b1) (b1_2 : b1 ≤ 32767) (b2_1 : -32768 ≤ b2) (b2_2 : b2 ≤ 32767) (x0_1 : -32768 ≤ x0) (x0_2 : x0 ≤ 32767) (x1_1 : -32768 ≤ x1) (x1_2 : x1 ≤ 32767) (x2_1 : -32768 ≤ x2) (x2_2 : x2 ≤ 32767) (k_1 : 0 ≤ k) (k_2 : k ≤ 255) (n_1 : -128 ≤ n) (n_2 : n ≤ 127) (eM : partsC k = M) (hR : rightB M = true) (eP : x0 % M = p0 ∧ x1 % M = p1 ∧ x2 % M = p2) (eQ : (p0 + b0 * (M / 24)) % M = q0 ∧ (p1 + b1 * (M / 24)) % M = q1 ∧ (p2 + b2 * (M / 24)) % M = q2) (eB : (q0 + ((-b0) % 24) * (M / 24)) % M = p0 ∧ (q1 + ((-b1) % 24) * (M / 24)) % M = p1 ∧ (q2 + ((-b2) % 24) * (M / 24)) % M = p2) (eD : (q0 - p0) % M = d0 ∧ (q1 - p1) % M = d1 ∧ (q2 - p2) % M = d2) (eV : (0 + b0 * (M / 24)) % M = d0 ∧ (0 + b1 * (M / 24)) % M = d1 ∧ (0 + b2 * (M / 24)) % M = d2) (eO : (0 - p0) % M = o0 ∧ (0 - p1) % M = o1 ∧ (0 - p2) % M = o2) (eF : p0 * (192 / M) = f0 ∧ p1 * (192 / M) = f1 ∧ p2 * (192 / M) = f2) (hP : formB M p0 p1 p2 = true) (hQ : formB M q0 q1 q2 = true) (hO : formB M 0 0 0 = true) (hF : formB 192 f0 f1 f2 = true) (eZ : lexC (f0 * (192 / 192)) (f1 * (192 / 192)) (f2 * (192 / 192)) (p0 * (192 / M)) (p1 * (192 / M)) (p2 * (192 / M)) = 0) (eR : lexC (p0 * (192 / M)) (p1 * (192 / M)) (p2 * (192 / M)) (q0 * (192 / M)) (q1 * (192 / M)) (q2 * (192 / M)) = -1) (eS : lexC (q0 * (192 / M)) (q1 * (192 / M)) (q2 * (192 / M)) (p0 * (192 / M)) (p1 * (192 / M)) (p2 * (192 / M)) = 1) (hZ : (p0 == q0 && (p1 == q1 && p2 == q2)) = false):
    Calls Try.prog 9 #[.agg #[.int .i16 a0, .int .i16 a1, .int .i16 a2], .agg #[.int .i16 b0, .int .i16 b1, .int .i16 b2], .int .u8 k, .agg #[.int .i16 x0, .int .i16 x1, .int .i16 x2], .int .i8 n] w fun e w' => e = .returned (.bool true) ∧ Below w.heap.size w w' := by
  have EM := Lib.hid eM; have HR := Lib.hid hR; have EP := Lib.hid eP; have EQ := Lib.hid eQ; have EB := Lib.hid eB; have ED := Lib.hid eD; have EV := Lib.hid eV; have EO := Lib.hid eO; have EF := Lib.hid eF
  have HP := Lib.hid hP; have HQ := Lib.hid hQ; have HO := Lib.hid hO; have HF := Lib.hid hF; have EZ := Lib.hid eZ; have ER := Lib.hid eR; have ES := Lib.hid eS
  clear eM hR eP eQ eB eD eV eO eF hP hQ hO hF eZ eR eS
  have gc0 := g_comm b0 a0
  have gn0 := w_neg (a0 + b0)
  have gc1 := g_comm b1 a1
  have gn1 := w_neg (a1 + b1)
  have gc2 := g_comm b2 a2
  have gn2 := w_neg (a2 + b2)
  go_enter Try.func9, Try.ntmps9
  go_wp2_with fail
  refine (add_any _ _ _ _ _ _ _).mono ?_
  rintro e w1 ⟨rfl, hb1⟩
  obtain ⟨hc1, hf1⟩ := bcell hb1
  have hz1 := hb1.size
  try simp at hz1
  have z1_0 : w.heap.size < w1.heap.size := by omega
  have z1_1 : w.heap.size + 1 < w1.heap.size := by omega
  have z1_2 : w.heap.size + 1 + 1 < w1.heap.size := by omega
  have z1_3 : w.heap.size + 1 + 1 + 1 < w1.heap.size := by omega
  have z1_4 : w.heap.size + 1 + 1 + 1 + 1 < w1.heap.size := by omega
  go_wp2
  refine region_all (by kernel_rfl) (by kernel_rfl) ?_
  repeat (go_big_quiet_step (first | (go_at_call 17; exact held_of _ (Nat.le_refl _) (add_any _ _ _ _ _ _ _)) | (go_at_call 19; exact held_of _ (Nat.le_refl _) (sub_any _ _ _ _ _ _ _)) | (go_at_call 21; exact held_of _ (Nat.le_refl _) (neg_any _ _ _ _))))
  refine wpQuiet_nil ?_
  rintro w2 ⟨⟨w0, hb2⟩, rfl⟩
  obtain ⟨hc2, hf2⟩ := bcell hb2
  have hz2 := hb2.size
  try simp at hz2
  have z2_0 : w.heap.size < w2.heap.size := by omega
  have z2_1 : w.heap.size + 1 < w2.heap.size := by omega
  have z2_2 : w.heap.size + 1 + 1 < w2.heap.size := by omega
  have z2_3 : w.heap.size + 1 + 1 + 1 < w2.heap.size := by omega
  have z2_4 : w.heap.size + 1 + 1 + 1 + 1 < w2.heap.size := by omega
  have z2_5 : w1.heap.size < w2.heap.size := by omega
  clear gc0 gn0 gc1 gn1 gc2 gn2
  go_wp2
  have e3 : ∃ N : Nat, n % 24 = (N : Int) ∧ N < 24 := ⟨(n % 24).toNat, by omega, by omega⟩
  obtain ⟨N, eN, hN⟩ := e3
  have EN := Lib.hid eN; clear eN
  simp only [Int.add_emod_emod, Int.emod_sub_emod, Int.add_zero, Int.add_sub_cancel, Int.add_right_neg, Int.zero_emod, Int.reduceAdd, Int.reduceMod]
  go_loopw [15] (fun i wr => ∃ k : Nat, k ≤ N ∧ i = .int .i64 k ∧ Sum2 w2 w2.heap.size a0 a1 a2 k wr) (fun i _ => N - (intOf i).toNat)
  case atStart =>
    refine ⟨0, Nat.zero_le _, rfl, ⟨?_, by go_simp, by go_simp, by go_simp, by go_simp, by intro o; go_simp⟩⟩
    exact (Below.refl _ _).alloc (Nat.le_refl _) _
  case round =>
    obtain ⟨j, hj, rfl, hinv⟩ := hrel
    obtain ⟨hcw, hfw⟩ := bcell2 hinv.below
    have cb0 := hinv.cb0; have cb1 := hinv.cb1; have cb2 := hinv.cb2; have fb := hinv.fb; have zb := hinv.zb
    by_cases hlt : j < N
    · go_wp2_with (go_at_call 33; refine (among_any _ _ _ (by omega) (by omega)).mono ?_; rintro e w' ⟨rfl, rfl⟩; rw [EN.out])
      refine (add_any _ _ _ _ _ _ _).mono ?_
      rintro e wa ⟨rfl, hba⟩
      obtain ⟨hca, hfa⟩ := bcell hba
      have hza := hba.size
      have y1 : w2.heap.size < wa.heap.size := by omega
      go_wp2
      go_roundw
      case rel => exact ⟨j + 1, by omega, by go_num, hinv.step hba (by simp) (by simp) (by simp)⟩
      case measure => simp [intOf]; omega
    · obtain rfl : j = N := by omega
      have hbel := hinv.below
      clear hinv hj hlt
      have y_0 : w.heap.size < wr.heap.size := by omega
      have y_1 : w.heap.size + 1 < wr.heap.size := by omega
      have y_2 : w.heap.size + 1 + 1 < wr.heap.size := by omega
      have y_3 : w.heap.size + 1 + 1 + 1 < wr.heap.size := by omega
      have y_4 : w.heap.size + 1 + 1 + 1 + 1 < wr.heap.size := by omega
      have y_5 : w1.heap.size < wr.heap.size := by omega
      have t0 : (n * a0 % 24 == (j : Int) * a0 % 24) = true := by rw [← EN.out]; exact w_times n a0
      have t1 : (n * a1 % 24 == (j : Int) * a1 % 24) = true := by rw [← EN.out]; exact w_times n a1
      have t2 : (n * a2 % 24 == (j : Int) * a2 % 24) = true := by rw [← EN.out]; exact w_times n a2
      go_wp2_with (go_at_call 33; refine (among_any _ _ _ (by omega) (by omega)).mono ?_; rintro e w' ⟨rfl, rfl⟩; rw [EN.out])
      refine region_all (by kernel_rfl) (by kernel_rfl) ?_
      repeat (go_big_quiet_step ((go_at_call 23; exact held_of _ (Nat.le_refl _) (times_any _ _ _ _ _))))
      refine wpQuiet_nil ?_
      rintro w3 ⟨⟨w0, hb3⟩, rfl⟩
      obtain ⟨hc3, hf3⟩ := bcell hb3
      have hz3 := hb3.size
      clear t0 t1 t2
      have z3_0 : w.heap.size < w3.heap.size := by omega
      have z3_1 : w.heap.size + 1 < w3.heap.size := by omega
      have z3_2 : w.heap.size + 1 + 1 < w3.heap.size := by omega
      have z3_3 : w.heap.size + 1 + 1 + 1 < w3.heap.size := by omega
      have z3_4 : w.heap.size + 1 + 1 + 1 + 1 < w3.heap.size := by omega
      have z3_5 : w1.heap.size < w3.heap.size := by omega
      have z3_6 : w2.heap.size < w3.heap.size := by omega
      go_wp2_with fail
      refine (to_s EM.out (parts_any _ _ k_1 k_2)).mono ?_
      rintro e w' ⟨rfl, rfl⟩
      go_wp2_with fail
      refine (to_v (pt_v EP.out.1 EP.out.2.1 EP.out.2.2) (place_t _ _ _ _ _ HR.out)).mono ?_
      rintro e w4 ⟨rfl, hb4⟩
      obtain ⟨hc4, hf4⟩ := bcell hb4
      have hz4 := hb4.size
      try simp at hz4
      have z4_0 : w.heap.size < w4.heap.size := by omega
      have z4_1 : w.heap.size + 1 < w4.heap.size := by omega
      have z4_2 : w.heap.size + 1 + 1 < w4.heap.size := by omega
      have z4_3 : w.heap.size + 1 + 1 + 1 < w4.heap.size := by omega
      have z4_4 : w.heap.size + 1 + 1 + 1 + 1 < w4.heap.size := by omega
      have z4_5 : w1.heap.size < w4.heap.size := by omega
      have z4_6 : w2.heap.size < w4.heap.size := by omega
      go_wp2_with fail
      refine (to_v (pt_v EQ.out.1 EQ.out.2.1 EQ.out.2.2) (shift_t _ _ _ _ _ _ _ _ HP.out)).mono ?_
      rintro e w5 ⟨rfl, hb5⟩
      obtain ⟨hc5, hf5⟩ := bcell hb5
      have hz5 := hb5.size
      try simp at hz5
      have z5_0 : w.heap.size < w5.heap.size := by omega
      have z5_1 : w.heap.size + 1 < w5.heap.size := by omega
      have z5_2 : w.heap.size + 1 + 1 < w5.heap.size := by omega
      have z5_3 : w.heap.size + 1 + 1 + 1 < w5.heap.size := by omega
      have z5_4 : w.heap.size + 1 + 1 + 1 + 1 < w5.heap.size := by omega
      have z5_5 : w1.heap.size < w5.heap.size := by omega
      have z5_6 : w2.heap.size < w5.heap.size := by omega
      have z5_7 : w4.heap.size < w5.heap.size := by omega
      go_wp2
      go_region_held3 (fun w' => w'.cell? ⟨w5.heap.size, 0, none⟩ = some (.int .i64 M) ∧ w'.cell? ⟨w5.heap.size, 1, none⟩ = some (.int .i64 q0) ∧ w'.cell? ⟨w5.heap.size, 2, none⟩ = some (.int .i64 q1) ∧ w'.cell? ⟨w5.heap.size, 3, none⟩ = some (.int .i64 q2) ∧ w'.cell? ⟨w.heap.size + 1 + 1 + 1 + 1, 0, none⟩ = some (.int .i64 b0) ∧ w'.cell? ⟨w.heap.size + 1 + 1 + 1 + 1, 1, none⟩ = some (.int .i64 b1) ∧ w'.cell? ⟨w.heap.size + 1 + 1 + 1 + 1, 2, none⟩ = some (.int .i64 b2)) ((go_split_ands; (repeat' apply And.intro) <;> (repeat' (first | assumption | (go_simp; done) | refine keep_alloc ?_ | refine keep_set ?_ ?_ | (dsimp only; omega) | omega)))) (first | (go_at_call 25; refine (to_v (pt_v EB.out.1 EB.out.2.1 EB.out.2.2) (shift_t _ _ _ _ _ _ _ _ HQ.out)).mono ?_; rintro e wS ⟨rfl, hbwS⟩; obtain ⟨hcwS, hfwS⟩ := bcell hbwS; have hzwS := hbwS.size; (try simp at hzwS); (try have zwS_0 : w.heap.size < wS.heap.size := (by omega)); (try have zwS_1 : w.heap.size + 1 < wS.heap.size := (by omega)); (try have zwS_2 : w.heap.size + 1 + 1 < wS.heap.size := (by omega)); (try have zwS_3 : w.heap.size + 1 + 1 + 1 < wS.heap.size := (by omega)); (try have zwS_4 : w.heap.size + 1 + 1 + 1 + 1 < wS.heap.size := (by omega)); (try have zwS_5 : w1.heap.size < wS.heap.size := (by omega)); (try have zwS_6 : w2.heap.size < wS.heap.size := (by omega)); (try have zwS_7 : w4.heap.size < wS.heap.size := (by omega)); (try have zwS_8 : w5.heap.size < wS.heap.size := (by omega)); (try have zwS_9 : w5.heap.size + 1 < wS.heap.size := (by omega)); (try have zwS_10 : wN.heap.size < wS.heap.size := (by omega)); have fwS0 : wS.cell? ⟨w5.heap.size, 0, none⟩ = some (.int .i64 M) := (hcwS _ _ (by first | omega | (simp; done) | (simp; omega))).trans (by first | assumption | (go_simp; done)); have fwS1 : wS.cell? ⟨w5.heap.size, 1, none⟩ = some (.int .i64 q0) := (hcwS _ _ (by first | omega | (simp; done) | (simp; omega))).trans (by first | assumption | (go_simp; done)); have fwS2 : wS.cell? ⟨w5.heap.size, 2, none⟩ = some (.int .i64 q1) := (hcwS _ _ (by first | omega | (simp; done) | (simp; omega))).trans (by first | assumption | (go_simp; done)); have fwS3 : wS.cell? ⟨w5.heap.size, 3, none⟩ = some (.int .i64 q2) := (hcwS _ _ (by first | omega | (simp; done) | (simp; omega))).trans (by first | assumption | (go_simp; done)); have fwS4 : wS.cell? ⟨w.heap.size + 1 + 1 + 1 + 1, 0, none⟩ = some (.int .i64 b0) := (hcwS _ _ (by first | omega | (simp; done) | (simp; omega))).trans (by first | assumption | (go_simp; done)); have fwS5 : wS.cell? ⟨w.heap.size + 1 + 1 + 1 + 1, 1, none⟩ = some (.int .i64 b1) := (hcwS _ _ (by first | omega | (simp; done) | (simp; omega))).trans (by first | assumption | (go_simp; done)); have fwS6 : wS.cell? ⟨w.heap.size + 1 + 1 + 1 + 1, 2, none⟩ = some (.int .i64 b2) := (hcwS _ _ (by first | omega | (simp; done) | (simp; omega))).trans (by first | assumption | (go_simp; done))) | (go_at_call 21; refine (neg_any _ _ _ _).mono ?_; rintro e wN ⟨rfl, hbwN⟩; obtain ⟨hcwN, hfwN⟩ := bcell hbwN; have hzwN := hbwN.size; (try simp at hzwN); (try have zwN_0 : w.heap.size < wN.heap.size := (by omega)); (try have zwN_1 : w.heap.size + 1 < wN.heap.size := (by omega)); (try have zwN_2 : w.heap.size + 1 + 1 < wN.heap.size := (by omega)); (try have zwN_3 : w.heap.size + 1 + 1 + 1 < wN.heap.size := (by omega)); (try have zwN_4 : w.heap.size + 1 + 1 + 1 + 1 < wN.heap.size := (by omega)); (try have zwN_5 : w1.heap.size < wN.heap.size := (by omega)); (try have zwN_6 : w2.heap.size < wN.heap.size := (by omega)); (try have zwN_7 : w4.heap.size < wN.heap.size := (by omega)); (try have zwN_8 : w5.heap.size < wN.heap.size := (by omega)); (try have zwN_9 : w5.heap.size + 1 < wN.heap.size := (by omega)); (try have zwN_10 : wS.heap.size < wN.heap.size := (by omega)); have fwN0 : wN.cell? ⟨w5.heap.size, 0, none⟩ = some (.int .i64 M) := (hcwN _ _ (by first | omega | (simp; done) | (simp; omega))).trans (by first | assumption | (go_simp; done)); have fwN1 : wN.cell? ⟨w5.heap.size, 1, none⟩ = some (.int .i64 q0) := (hcwN _ _ (by first | omega | (simp; done) | (simp; omega))).trans (by first | assumption | (go_simp; done)); have fwN2 : wN.cell? ⟨w5.heap.size, 2, none⟩ = some (.int .i64 q1) := (hcwN _ _ (by first | omega | (simp; done) | (simp; omega))).trans (by first | assumption | (go_simp; done)); have fwN3 : wN.cell? ⟨w5.heap.size, 3, none⟩ = some (.int .i64 q2) := (hcwN _ _ (by first | omega | (simp; done) | (simp; omega))).trans (by first | assumption | (go_simp; done)); have fwN4 : wN.cell? ⟨w.heap.size + 1 + 1 + 1 + 1, 0, none⟩ = some (.int .i64 b0) := (hcwN _ _ (by first | omega | (simp; done) | (simp; omega))).trans (by first | assumption | (go_simp; done)); have fwN5 : wN.cell? ⟨w.heap.size + 1 + 1 + 1 + 1, 1, none⟩ = some (.int .i64 b1) := (hcwN _ _ (by first | omega | (simp; done) | (simp; omega))).trans (by first | assumption | (go_simp; done)); have fwN6 : wN.cell? ⟨w.heap.size + 1 + 1 + 1 + 1, 2, none⟩ = some (.int .i64 b2) := (hcwN _ _ (by first | omega | (simp; done) | (simp; omega))).trans (by first | assumption | (go_simp; done))))
      · simp only [Exit.then]
        go_wp2_with fail
        refine (to_v (pt_v ED.out.1 ED.out.2.1 ED.out.2.2) (minus_t _ _ _ _ _ _ _ _ HQ.out HP.out)).mono ?_
        rintro e w7 ⟨rfl, hb7⟩
        obtain ⟨hc7, hf7⟩ := bcell hb7
        have hz7 := hb7.size
        try simp at hz7
        have z7_0 : w.heap.size < w7.heap.size := by omega
        have z7_1 : w.heap.size + 1 < w7.heap.size := by omega
        have z7_2 : w.heap.size + 1 + 1 < w7.heap.size := by omega
        have z7_3 : w.heap.size + 1 + 1 + 1 < w7.heap.size := by omega
        have z7_4 : w.heap.size + 1 + 1 + 1 + 1 < w7.heap.size := by omega
        have z7_5 : w1.heap.size < w7.heap.size := by omega
        have z7_6 : w2.heap.size < w7.heap.size := by omega
        have z7_7 : w4.heap.size < w7.heap.size := by omega
        have z7_8 : w5.heap.size < w7.heap.size := by omega
        have z7_9 : wS.heap.size < w7.heap.size := by omega
        go_wp2_with fail
        refine (to_v (pt_v (Int.zero_emod M) (Int.zero_emod M) (Int.zero_emod M)) (place_t _ _ _ _ _ HR.out)).mono ?_
        rintro e w8 ⟨rfl, hb8⟩
        obtain ⟨hc8, hf8⟩ := bcell hb8
        have hz8 := hb8.size
        try simp at hz8
        have z8_0 : w.heap.size < w8.heap.size := by omega
        have z8_1 : w.heap.size + 1 < w8.heap.size := by omega
        have z8_2 : w.heap.size + 1 + 1 < w8.heap.size := by omega
        have z8_3 : w.heap.size + 1 + 1 + 1 < w8.heap.size := by omega
        have z8_4 : w.heap.size + 1 + 1 + 1 + 1 < w8.heap.size := by omega
        have z8_5 : w1.heap.size < w8.heap.size := by omega
        have z8_6 : w2.heap.size < w8.heap.size := by omega
        have z8_7 : w4.heap.size < w8.heap.size := by omega
        have z8_8 : w5.heap.size < w8.heap.size := by omega
        have z8_9 : wS.heap.size < w8.heap.size := by omega
        have z8_10 : w7.heap.size < w8.heap.size := by omega
        go_wp2_with fail
        refine (to_v (pt_v EV.out.1 EV.out.2.1 EV.out.2.2) (shift_t _ _ _ _ _ _ _ _ HO.out)).mono ?_
        rintro e w9 ⟨rfl, hb9⟩
        obtain ⟨hc9, hf9⟩ := bcell hb9
        have hz9 := hb9.size
        try simp at hz9
        have z9_0 : w.heap.size < w9.heap.size := by omega
        have z9_1 : w.heap.size + 1 < w9.heap.size := by omega
        have z9_2 : w.heap.size + 1 + 1 < w9.heap.size := by omega
        have z9_3 : w.heap.size + 1 + 1 + 1 < w9.heap.size := by omega
        have z9_4 : w.heap.size + 1 + 1 + 1 + 1 < w9.heap.size := by omega
        have z9_5 : w1.heap.size < w9.heap.size := by omega
        have z9_6 : w2.heap.size < w9.heap.size := by omega
        have z9_7 : w4.heap.size < w9.heap.size := by omega
        have z9_8 : w5.heap.size < w9.heap.size := by omega
        have z9_9 : wS.heap.size < w9.heap.size := by omega
        have z9_10 : w7.heap.size < w9.heap.size := by omega
        have z9_11 : w8.heap.size < w9.heap.size := by omega
        go_wp2_with fail
        refine (to_v (pt_v EO.out.1 EO.out.2.1 EO.out.2.2) (opp_t _ _ _ _ _ HP.out)).mono ?_
        rintro e w10 ⟨rfl, hb10⟩
        obtain ⟨hc10, hf10⟩ := bcell hb10
        have hz10 := hb10.size
        try simp at hz10
        have z10_0 : w.heap.size < w10.heap.size := by omega
        have z10_1 : w.heap.size + 1 < w10.heap.size := by omega
        have z10_2 : w.heap.size + 1 + 1 < w10.heap.size := by omega
        have z10_3 : w.heap.size + 1 + 1 + 1 < w10.heap.size := by omega
        have z10_4 : w.heap.size + 1 + 1 + 1 + 1 < w10.heap.size := by omega
        have z10_5 : w1.heap.size < w10.heap.size := by omega
        have z10_6 : w2.heap.size < w10.heap.size := by omega
        have z10_7 : w4.heap.size < w10.heap.size := by omega
        have z10_8 : w5.heap.size < w10.heap.size := by omega
        have z10_9 : wS.heap.size < w10.heap.size := by omega
        have z10_10 : w7.heap.size < w10.heap.size := by omega
        have z10_11 : w8.heap.size < w10.heap.size := by omega
        have z10_12 : w9.heap.size < w10.heap.size := by omega
        go_wp2_with fail
        refine (to_v (pt_v EO.out.1 EO.out.2.1 EO.out.2.2) (minus_t _ _ _ _ _ _ _ _ HO.out HP.out)).mono ?_
        rintro e w11 ⟨rfl, hb11⟩
        obtain ⟨hc11, hf11⟩ := bcell hb11
        have hz11 := hb11.size
        try simp at hz11
        have z11_0 : w.heap.size < w11.heap.size := by omega
        have z11_1 : w.heap.size + 1 < w11.heap.size := by omega
        have z11_2 : w.heap.size + 1 + 1 < w11.heap.size := by omega
        have z11_3 : w.heap.size + 1 + 1 + 1 < w11.heap.size := by omega
        have z11_4 : w.heap.size + 1 + 1 + 1 + 1 < w11.heap.size := by omega
        have z11_5 : w1.heap.size < w11.heap.size := by omega
        have z11_6 : w2.heap.size < w11.heap.size := by omega
        have z11_7 : w4.heap.size < w11.heap.size := by omega
        have z11_8 : w5.heap.size < w11.heap.size := by omega
        have z11_9 : wS.heap.size < w11.heap.size := by omega
        have z11_10 : w7.heap.size < w11.heap.size := by omega
        have z11_11 : w8.heap.size < w11.heap.size := by omega
        have z11_12 : w9.heap.size < w11.heap.size := by omega
        have z11_13 : w10.heap.size < w11.heap.size := by omega
        go_wp2_with fail
        refine (to_v (by rw [HP.out]) (form_any _ _ _ _ _)).mono ?_
        rintro e w12 ⟨rfl, hb12⟩
        obtain ⟨hc12, hf12⟩ := bcell hb12
        have hz12 := hb12.size
        try simp at hz12
        have z12_0 : w.heap.size < w12.heap.size := by omega
        have z12_1 : w.heap.size + 1 < w12.heap.size := by omega
        have z12_2 : w.heap.size + 1 + 1 < w12.heap.size := by omega
        have z12_3 : w.heap.size + 1 + 1 + 1 < w12.heap.size := by omega
        have z12_4 : w.heap.size + 1 + 1 + 1 + 1 < w12.heap.size := by omega
        have z12_5 : w1.heap.size < w12.heap.size := by omega
        have z12_6 : w2.heap.size < w12.heap.size := by omega
        have z12_7 : w4.heap.size < w12.heap.size := by omega
        have z12_8 : w5.heap.size < w12.heap.size := by omega
        have z12_9 : wS.heap.size < w12.heap.size := by omega
        have z12_10 : w7.heap.size < w12.heap.size := by omega
        have z12_11 : w8.heap.size < w12.heap.size := by omega
        have z12_12 : w9.heap.size < w12.heap.size := by omega
        have z12_13 : w10.heap.size < w12.heap.size := by omega
        have z12_14 : w11.heap.size < w12.heap.size := by omega
        go_wp2_with fail
        refine (to_v (pt_v EF.out.1 EF.out.2.1 EF.out.2.2) (finer_t _ _ _ _ _ _ r192 HP.out (dvd192 HR.out))).mono ?_
        rintro e w13 ⟨rfl, hb13⟩
        obtain ⟨hc13, hf13⟩ := bcell hb13
        have hz13 := hb13.size
        try simp at hz13
        have z13_0 : w.heap.size < w13.heap.size := by omega
        have z13_1 : w.heap.size + 1 < w13.heap.size := by omega
        have z13_2 : w.heap.size + 1 + 1 < w13.heap.size := by omega
        have z13_3 : w.heap.size + 1 + 1 + 1 < w13.heap.size := by omega
        have z13_4 : w.heap.size + 1 + 1 + 1 + 1 < w13.heap.size := by omega
        have z13_5 : w1.heap.size < w13.heap.size := by omega
        have z13_6 : w2.heap.size < w13.heap.size := by omega
        have z13_7 : w4.heap.size < w13.heap.size := by omega
        have z13_8 : w5.heap.size < w13.heap.size := by omega
        have z13_9 : wS.heap.size < w13.heap.size := by omega
        have z13_10 : w7.heap.size < w13.heap.size := by omega
        have z13_11 : w8.heap.size < w13.heap.size := by omega
        have z13_12 : w9.heap.size < w13.heap.size := by omega
        have z13_13 : w10.heap.size < w13.heap.size := by omega
        have z13_14 : w11.heap.size < w13.heap.size := by omega
        go_wp2_with fail
        refine (to_v (ord_v EZ.out) (order_t _ _ _ _ _ _ _ _ _ HF.out HP.out)).mono ?_
        rintro e w14 ⟨rfl, hb14⟩
        obtain ⟨hc14, hf14⟩ := bcell hb14
        have hz14 := hb14.size
        try simp at hz14
        have z14_0 : w.heap.size < w14.heap.size := by omega
        have z14_1 : w.heap.size + 1 < w14.heap.size := by omega
        have z14_2 : w.heap.size + 1 + 1 < w14.heap.size := by omega
        have z14_3 : w.heap.size + 1 + 1 + 1 < w14.heap.size := by omega
        have z14_4 : w.heap.size + 1 + 1 + 1 + 1 < w14.heap.size := by omega
        have z14_5 : w1.heap.size < w14.heap.size := by omega
        have z14_6 : w2.heap.size < w14.heap.size := by omega
        have z14_7 : w4.heap.size < w14.heap.size := by omega
        have z14_8 : w5.heap.size < w14.heap.size := by omega
        have z14_9 : wS.heap.size < w14.heap.size := by omega
        have z14_10 : w7.heap.size < w14.heap.size := by omega
        have z14_11 : w8.heap.size < w14.heap.size := by omega
        have z14_12 : w9.heap.size < w14.heap.size := by omega
        have z14_13 : w10.heap.size < w14.heap.size := by omega
        have z14_14 : w11.heap.size < w14.heap.size := by omega
        have z14_15 : w13.heap.size < w14.heap.size := by omega
        go_wp2_with fail
        refine (to_v (ord_v ER.out) (order_t _ _ _ _ _ _ _ _ _ HP.out HQ.out)).mono ?_
        rintro e w15 ⟨rfl, hb15⟩
        obtain ⟨hc15, hf15⟩ := bcell hb15
        have hz15 := hb15.size
        try simp at hz15
        have z15_0 : w.heap.size < w15.heap.size := by omega
        have z15_1 : w.heap.size + 1 < w15.heap.size := by omega
        have z15_2 : w.heap.size + 1 + 1 < w15.heap.size := by omega
        have z15_3 : w.heap.size + 1 + 1 + 1 < w15.heap.size := by omega
        have z15_4 : w.heap.size + 1 + 1 + 1 + 1 < w15.heap.size := by omega
        have z15_5 : w1.heap.size < w15.heap.size := by omega
        have z15_6 : w2.heap.size < w15.heap.size := by omega
        have z15_7 : w4.heap.size < w15.heap.size := by omega
        have z15_8 : w5.heap.size < w15.heap.size := by omega
        have z15_9 : wS.heap.size < w15.heap.size := by omega
        have z15_10 : w7.heap.size < w15.heap.size := by omega
        have z15_11 : w8.heap.size < w15.heap.size := by omega
        have z15_12 : w9.heap.size < w15.heap.size := by omega
        have z15_13 : w10.heap.size < w15.heap.size := by omega
        have z15_14 : w11.heap.size < w15.heap.size := by omega
        have z15_15 : w13.heap.size < w15.heap.size := by omega
        go_wp2_with fail
        refine (to_v (ord_v ES.out) (order_t _ _ _ _ _ _ _ _ _ HQ.out HP.out)).mono ?_
        rintro e w16 ⟨rfl, hb16⟩
        obtain ⟨hc16, hf16⟩ := bcell hb16
        have hz16 := hb16.size
        try simp at hz16
        have z16_0 : w.heap.size < w16.heap.size := by omega
        have z16_1 : w.heap.size + 1 < w16.heap.size := by omega
        have z16_2 : w.heap.size + 1 + 1 < w16.heap.size := by omega
        have z16_3 : w.heap.size + 1 + 1 + 1 < w16.heap.size := by omega
        have z16_4 : w.heap.size + 1 + 1 + 1 + 1 < w16.heap.size := by omega
        have z16_5 : w1.heap.size < w16.heap.size := by omega
        have z16_6 : w2.heap.size < w16.heap.size := by omega
        have z16_7 : w4.heap.size < w16.heap.size := by omega
        have z16_8 : w5.heap.size < w16.heap.size := by omega
        have z16_9 : wS.heap.size < w16.heap.size := by omega
        have z16_10 : w7.heap.size < w16.heap.size := by omega
        have z16_11 : w8.heap.size < w16.heap.size := by omega
        have z16_12 : w9.heap.size < w16.heap.size := by omega
        have z16_13 : w10.heap.size < w16.heap.size := by omega
        have z16_14 : w11.heap.size < w16.heap.size := by omega
        have z16_15 : w13.heap.size < w16.heap.size := by omega
        go_wp2
        go_ret
        refine ⟨rfl, ?_⟩
        repeat (first | exact Below.refl _ _ | assumption | exact Below.alloc (Below.refl _ _) (Nat.le_refl _) _ | refine Below.setCell ?_ (by first | (simp; done) | (simp; omega) | omega) _ | refine below_drewN ?_ _ | refine Below.alloc ?_ (by first | (simp; done) | (simp; omega) | omega) _ | refine Below.trans ?_ (Below.mono (by assumption) (by first | (simp; done) | (simp; omega) | omega)))
      · simp only [Exit.then]
        go_wp2_with fail
        refine (to_v (pt_v ED.out.1 ED.out.2.1 ED.out.2.2) (minus_t _ _ _ _ _ _ _ _ HQ.out HP.out)).mono ?_
        rintro e w7 ⟨rfl, hb7⟩
        obtain ⟨hc7, hf7⟩ := bcell hb7
        have hz7 := hb7.size
        try simp at hz7
        have z7_0 : w.heap.size < w7.heap.size := by omega
        have z7_1 : w.heap.size + 1 < w7.heap.size := by omega
        have z7_2 : w.heap.size + 1 + 1 < w7.heap.size := by omega
        have z7_3 : w.heap.size + 1 + 1 + 1 < w7.heap.size := by omega
        have z7_4 : w.heap.size + 1 + 1 + 1 + 1 < w7.heap.size := by omega
        have z7_5 : w1.heap.size < w7.heap.size := by omega
        have z7_6 : w2.heap.size < w7.heap.size := by omega
        have z7_7 : w4.heap.size < w7.heap.size := by omega
        have z7_8 : w5.heap.size < w7.heap.size := by omega
        have z7_9 : wN.heap.size < w7.heap.size := by omega
        go_wp2_with fail
        refine (to_v (pt_v (Int.zero_emod M) (Int.zero_emod M) (Int.zero_emod M)) (place_t _ _ _ _ _ HR.out)).mono ?_
        rintro e w8 ⟨rfl, hb8⟩
        obtain ⟨hc8, hf8⟩ := bcell hb8
        have hz8 := hb8.size
        try simp at hz8
        have z8_0 : w.heap.size < w8.heap.size := by omega
        have z8_1 : w.heap.size + 1 < w8.heap.size := by omega
        have z8_2 : w.heap.size + 1 + 1 < w8.heap.size := by omega
        have z8_3 : w.heap.size + 1 + 1 + 1 < w8.heap.size := by omega
        have z8_4 : w.heap.size + 1 + 1 + 1 + 1 < w8.heap.size := by omega
        have z8_5 : w1.heap.size < w8.heap.size := by omega
        have z8_6 : w2.heap.size < w8.heap.size := by omega
        have z8_7 : w4.heap.size < w8.heap.size := by omega
        have z8_8 : w5.heap.size < w8.heap.size := by omega
        have z8_9 : wN.heap.size < w8.heap.size := by omega
        have z8_10 : w7.heap.size < w8.heap.size := by omega
        go_wp2_with fail
        refine (to_v (pt_v EV.out.1 EV.out.2.1 EV.out.2.2) (shift_t _ _ _ _ _ _ _ _ HO.out)).mono ?_
        rintro e w9 ⟨rfl, hb9⟩
        obtain ⟨hc9, hf9⟩ := bcell hb9
        have hz9 := hb9.size
        try simp at hz9
        have z9_0 : w.heap.size < w9.heap.size := by omega
        have z9_1 : w.heap.size + 1 < w9.heap.size := by omega
        have z9_2 : w.heap.size + 1 + 1 < w9.heap.size := by omega
        have z9_3 : w.heap.size + 1 + 1 + 1 < w9.heap.size := by omega
        have z9_4 : w.heap.size + 1 + 1 + 1 + 1 < w9.heap.size := by omega
        have z9_5 : w1.heap.size < w9.heap.size := by omega
        have z9_6 : w2.heap.size < w9.heap.size := by omega
        have z9_7 : w4.heap.size < w9.heap.size := by omega
        have z9_8 : w5.heap.size < w9.heap.size := by omega
        have z9_9 : wN.heap.size < w9.heap.size := by omega
        have z9_10 : w7.heap.size < w9.heap.size := by omega
        have z9_11 : w8.heap.size < w9.heap.size := by omega
        go_wp2_with fail
        refine (to_v (pt_v EO.out.1 EO.out.2.1 EO.out.2.2) (opp_t _ _ _ _ _ HP.out)).mono ?_
        rintro e w10 ⟨rfl, hb10⟩
        obtain ⟨hc10, hf10⟩ := bcell hb10
        have hz10 := hb10.size
        try simp at hz10
        have z10_0 : w.heap.size < w10.heap.size := by omega
        have z10_1 : w.heap.size + 1 < w10.heap.size := by omega
        have z10_2 : w.heap.size + 1 + 1 < w10.heap.size := by omega
        have z10_3 : w.heap.size + 1 + 1 + 1 < w10.heap.size := by omega
        have z10_4 : w.heap.size + 1 + 1 + 1 + 1 < w10.heap.size := by omega
        have z10_5 : w1.heap.size < w10.heap.size := by omega
        have z10_6 : w2.heap.size < w10.heap.size := by omega
        have z10_7 : w4.heap.size < w10.heap.size := by omega
        have z10_8 : w5.heap.size < w10.heap.size := by omega
        have z10_9 : wN.heap.size < w10.heap.size := by omega
        have z10_10 : w7.heap.size < w10.heap.size := by omega
        have z10_11 : w8.heap.size < w10.heap.size := by omega
        have z10_12 : w9.heap.size < w10.heap.size := by omega
        go_wp2_with fail
        refine (to_v (pt_v EO.out.1 EO.out.2.1 EO.out.2.2) (minus_t _ _ _ _ _ _ _ _ HO.out HP.out)).mono ?_
        rintro e w11 ⟨rfl, hb11⟩
        obtain ⟨hc11, hf11⟩ := bcell hb11
        have hz11 := hb11.size
        try simp at hz11
        have z11_0 : w.heap.size < w11.heap.size := by omega
        have z11_1 : w.heap.size + 1 < w11.heap.size := by omega
        have z11_2 : w.heap.size + 1 + 1 < w11.heap.size := by omega
        have z11_3 : w.heap.size + 1 + 1 + 1 < w11.heap.size := by omega
        have z11_4 : w.heap.size + 1 + 1 + 1 + 1 < w11.heap.size := by omega
        have z11_5 : w1.heap.size < w11.heap.size := by omega
        have z11_6 : w2.heap.size < w11.heap.size := by omega
        have z11_7 : w4.heap.size < w11.heap.size := by omega
        have z11_8 : w5.heap.size < w11.heap.size := by omega
        have z11_9 : wN.heap.size < w11.heap.size := by omega
        have z11_10 : w7.heap.size < w11.heap.size := by omega
        have z11_11 : w8.heap.size < w11.heap.size := by omega
        have z11_12 : w9.heap.size < w11.heap.size := by omega
        have z11_13 : w10.heap.size < w11.heap.size := by omega
        go_wp2_with fail
        refine (to_v (by rw [HP.out]) (form_any _ _ _ _ _)).mono ?_
        rintro e w12 ⟨rfl, hb12⟩
        obtain ⟨hc12, hf12⟩ := bcell hb12
        have hz12 := hb12.size
        try simp at hz12
        have z12_0 : w.heap.size < w12.heap.size := by omega
        have z12_1 : w.heap.size + 1 < w12.heap.size := by omega
        have z12_2 : w.heap.size + 1 + 1 < w12.heap.size := by omega
        have z12_3 : w.heap.size + 1 + 1 + 1 < w12.heap.size := by omega
        have z12_4 : w.heap.size + 1 + 1 + 1 + 1 < w12.heap.size := by omega
        have z12_5 : w1.heap.size < w12.heap.size := by omega
        have z12_6 : w2.heap.size < w12.heap.size := by omega
        have z12_7 : w4.heap.size < w12.heap.size := by omega
        have z12_8 : w5.heap.size < w12.heap.size := by omega
        have z12_9 : wN.heap.size < w12.heap.size := by omega
        have z12_10 : w7.heap.size < w12.heap.size := by omega
        have z12_11 : w8.heap.size < w12.heap.size := by omega
        have z12_12 : w9.heap.size < w12.heap.size := by omega
        have z12_13 : w10.heap.size < w12.heap.size := by omega
        have z12_14 : w11.heap.size < w12.heap.size := by omega
        go_wp2_with fail
        refine (to_v (pt_v EF.out.1 EF.out.2.1 EF.out.2.2) (finer_t _ _ _ _ _ _ r192 HP.out (dvd192 HR.out))).mono ?_
        rintro e w13 ⟨rfl, hb13⟩
        obtain ⟨hc13, hf13⟩ := bcell hb13
        have hz13 := hb13.size
        try simp at hz13
        have z13_0 : w.heap.size < w13.heap.size := by omega
        have z13_1 : w.heap.size + 1 < w13.heap.size := by omega
        have z13_2 : w.heap.size + 1 + 1 < w13.heap.size := by omega
        have z13_3 : w.heap.size + 1 + 1 + 1 < w13.heap.size := by omega
        have z13_4 : w.heap.size + 1 + 1 + 1 + 1 < w13.heap.size := by omega
        have z13_5 : w1.heap.size < w13.heap.size := by omega
        have z13_6 : w2.heap.size < w13.heap.size := by omega
        have z13_7 : w4.heap.size < w13.heap.size := by omega
        have z13_8 : w5.heap.size < w13.heap.size := by omega
        have z13_9 : wN.heap.size < w13.heap.size := by omega
        have z13_10 : w7.heap.size < w13.heap.size := by omega
        have z13_11 : w8.heap.size < w13.heap.size := by omega
        have z13_12 : w9.heap.size < w13.heap.size := by omega
        have z13_13 : w10.heap.size < w13.heap.size := by omega
        have z13_14 : w11.heap.size < w13.heap.size := by omega
        go_wp2_with fail
        refine (to_v (ord_v EZ.out) (order_t _ _ _ _ _ _ _ _ _ HF.out HP.out)).mono ?_
        rintro e w14 ⟨rfl, hb14⟩
        obtain ⟨hc14, hf14⟩ := bcell hb14
        have hz14 := hb14.size
        try simp at hz14
        have z14_0 : w.heap.size < w14.heap.size := by omega
        have z14_1 : w.heap.size + 1 < w14.heap.size := by omega
        have z14_2 : w.heap.size + 1 + 1 < w14.heap.size := by omega
        have z14_3 : w.heap.size + 1 + 1 + 1 < w14.heap.size := by omega
        have z14_4 : w.heap.size + 1 + 1 + 1 + 1 < w14.heap.size := by omega
        have z14_5 : w1.heap.size < w14.heap.size := by omega
        have z14_6 : w2.heap.size < w14.heap.size := by omega
        have z14_7 : w4.heap.size < w14.heap.size := by omega
        have z14_8 : w5.heap.size < w14.heap.size := by omega
        have z14_9 : wN.heap.size < w14.heap.size := by omega
        have z14_10 : w7.heap.size < w14.heap.size := by omega
        have z14_11 : w8.heap.size < w14.heap.size := by omega
        have z14_12 : w9.heap.size < w14.heap.size := by omega
        have z14_13 : w10.heap.size < w14.heap.size := by omega
        have z14_14 : w11.heap.size < w14.heap.size := by omega
        have z14_15 : w13.heap.size < w14.heap.size := by omega
        go_wp2_with fail
        refine (to_v (ord_v ER.out) (order_t _ _ _ _ _ _ _ _ _ HP.out HQ.out)).mono ?_
        rintro e w15 ⟨rfl, hb15⟩
        obtain ⟨hc15, hf15⟩ := bcell hb15
        have hz15 := hb15.size
        try simp at hz15
        have z15_0 : w.heap.size < w15.heap.size := by omega
        have z15_1 : w.heap.size + 1 < w15.heap.size := by omega
        have z15_2 : w.heap.size + 1 + 1 < w15.heap.size := by omega
        have z15_3 : w.heap.size + 1 + 1 + 1 < w15.heap.size := by omega
        have z15_4 : w.heap.size + 1 + 1 + 1 + 1 < w15.heap.size := by omega
        have z15_5 : w1.heap.size < w15.heap.size := by omega
        have z15_6 : w2.heap.size < w15.heap.size := by omega
        have z15_7 : w4.heap.size < w15.heap.size := by omega
        have z15_8 : w5.heap.size < w15.heap.size := by omega
        have z15_9 : wN.heap.size < w15.heap.size := by omega
        have z15_10 : w7.heap.size < w15.heap.size := by omega
        have z15_11 : w8.heap.size < w15.heap.size := by omega
        have z15_12 : w9.heap.size < w15.heap.size := by omega
        have z15_13 : w10.heap.size < w15.heap.size := by omega
        have z15_14 : w11.heap.size < w15.heap.size := by omega
        have z15_15 : w13.heap.size < w15.heap.size := by omega
        go_wp2_with fail
        refine (to_v (ord_v ES.out) (order_t _ _ _ _ _ _ _ _ _ HQ.out HP.out)).mono ?_
        rintro e w16 ⟨rfl, hb16⟩
        obtain ⟨hc16, hf16⟩ := bcell hb16
        have hz16 := hb16.size
        try simp at hz16
        have z16_0 : w.heap.size < w16.heap.size := by omega
        have z16_1 : w.heap.size + 1 < w16.heap.size := by omega
        have z16_2 : w.heap.size + 1 + 1 < w16.heap.size := by omega
        have z16_3 : w.heap.size + 1 + 1 + 1 < w16.heap.size := by omega
        have z16_4 : w.heap.size + 1 + 1 + 1 + 1 < w16.heap.size := by omega
        have z16_5 : w1.heap.size < w16.heap.size := by omega
        have z16_6 : w2.heap.size < w16.heap.size := by omega
        have z16_7 : w4.heap.size < w16.heap.size := by omega
        have z16_8 : w5.heap.size < w16.heap.size := by omega
        have z16_9 : wN.heap.size < w16.heap.size := by omega
        have z16_10 : w7.heap.size < w16.heap.size := by omega
        have z16_11 : w8.heap.size < w16.heap.size := by omega
        have z16_12 : w9.heap.size < w16.heap.size := by omega
        have z16_13 : w10.heap.size < w16.heap.size := by omega
        have z16_14 : w11.heap.size < w16.heap.size := by omega
        have z16_15 : w13.heap.size < w16.heap.size := by omega
        go_wp2
        go_ret
        refine ⟨rfl, ?_⟩
        repeat (first | exact Below.refl _ _ | assumption | exact Below.alloc (Below.refl _ _) (Nat.le_refl _) _ | refine Below.setCell ?_ (by first | (simp; done) | (simp; omega) | omega) _ | refine below_drewN ?_ _ | refine Below.alloc ?_ (by first | (simp; done) | (simp; omega) | omega) _ | refine Below.trans ?_ (Below.mono (by assumption) (by first | (simp; done) | (simp; omega) | omega)))
      · simp only [Exit.then]
        have nn0 : ¬ (w5.heap.size + 1 = w.heap.size) := by omega
        have nn1 : ¬ (w5.heap.size + 1 = w.heap.size + 1) := by omega
        have nn2 : ¬ (w5.heap.size + 1 = w.heap.size + 1 + 1) := by omega
        have nn3 : ¬ (w5.heap.size + 1 = w.heap.size + 1 + 1 + 1) := by omega
        have nn4 : ¬ (w5.heap.size + 1 = w.heap.size + 1 + 1 + 1 + 1) := by omega
        have nn5 : ¬ (w5.heap.size + 1 = w1.heap.size) := by omega
        have nn6 : ¬ (w5.heap.size + 1 = w2.heap.size) := by omega
        have nn7 : ¬ (w5.heap.size + 1 = w4.heap.size) := by omega
        have nn8 : ¬ (w5.heap.size + 1 = w5.heap.size) := by omega
        have nm0 : ¬ (w.heap.size = w5.heap.size + 1) := by omega
        have nm1 : ¬ (w.heap.size + 1 = w5.heap.size + 1) := by omega
        have nm2 : ¬ (w.heap.size + 1 + 1 = w5.heap.size + 1) := by omega
        have nm3 : ¬ (w.heap.size + 1 + 1 + 1 = w5.heap.size + 1) := by omega
        have nm4 : ¬ (w.heap.size + 1 + 1 + 1 + 1 = w5.heap.size + 1) := by omega
        have nm5 : ¬ (w1.heap.size = w5.heap.size + 1) := by omega
        have nm6 : ¬ (w2.heap.size = w5.heap.size + 1) := by omega
        have nm7 : ¬ (w4.heap.size = w5.heap.size + 1) := by omega
        have nm8 : ¬ (w5.heap.size = w5.heap.size + 1) := by omega
        have nx0 : w.heap.size < w5.heap.size + 1 + 1 := by omega
        have ny0 : w.heap.size ≤ w5.heap.size + 1 := by omega
        have nz0 : w.heap.size < w5.heap.size + 1 := by omega
        have nu0 : w.heap.size ≤ w5.heap.size := by omega
        have nx1 : w.heap.size + 1 < w5.heap.size + 1 + 1 := by omega
        have ny1 : w.heap.size + 1 ≤ w5.heap.size + 1 := by omega
        have nz1 : w.heap.size + 1 < w5.heap.size + 1 := by omega
        have nu1 : w.heap.size + 1 ≤ w5.heap.size := by omega
        have nx2 : w.heap.size + 1 + 1 < w5.heap.size + 1 + 1 := by omega
        have ny2 : w.heap.size + 1 + 1 ≤ w5.heap.size + 1 := by omega
        have nz2 : w.heap.size + 1 + 1 < w5.heap.size + 1 := by omega
        have nu2 : w.heap.size + 1 + 1 ≤ w5.heap.size := by omega
        have nx3 : w.heap.size + 1 + 1 + 1 < w5.heap.size + 1 + 1 := by omega
        have ny3 : w.heap.size + 1 + 1 + 1 ≤ w5.heap.size + 1 := by omega
        have nz3 : w.heap.size + 1 + 1 + 1 < w5.heap.size + 1 := by omega
        have nu3 : w.heap.size + 1 + 1 + 1 ≤ w5.heap.size := by omega
        have nx4 : w.heap.size + 1 + 1 + 1 + 1 < w5.heap.size + 1 + 1 := by omega
        have ny4 : w.heap.size + 1 + 1 + 1 + 1 ≤ w5.heap.size + 1 := by omega
        have nz4 : w.heap.size + 1 + 1 + 1 + 1 < w5.heap.size + 1 := by omega
        have nu4 : w.heap.size + 1 + 1 + 1 + 1 ≤ w5.heap.size := by omega
        have nx5 : w1.heap.size < w5.heap.size + 1 + 1 := by omega
        have ny5 : w1.heap.size ≤ w5.heap.size + 1 := by omega
        have nz5 : w1.heap.size < w5.heap.size + 1 := by omega
        have nu5 : w1.heap.size ≤ w5.heap.size := by omega
        have nx6 : w2.heap.size < w5.heap.size + 1 + 1 := by omega
        have ny6 : w2.heap.size ≤ w5.heap.size + 1 := by omega
        have nz6 : w2.heap.size < w5.heap.size + 1 := by omega
        have nu6 : w2.heap.size ≤ w5.heap.size := by omega
        have nx7 : w4.heap.size < w5.heap.size + 1 + 1 := by omega
        have ny7 : w4.heap.size ≤ w5.heap.size + 1 := by omega
        have nz7 : w4.heap.size < w5.heap.size + 1 := by omega
        have nu7 : w4.heap.size ≤ w5.heap.size := by omega
        have nx8 : w5.heap.size < w5.heap.size + 1 + 1 := by omega
        have ny8 : w5.heap.size ≤ w5.heap.size + 1 := by omega
        have nz8 : w5.heap.size < w5.heap.size + 1 := by omega
        have nu8 : w5.heap.size ≤ w5.heap.size := by omega
        go_wp2_with fail
        refine (to_v (pt_v ED.out.1 ED.out.2.1 ED.out.2.2) (minus_t _ _ _ _ _ _ _ _ HQ.out HP.out)).mono ?_
        rintro e w7 ⟨rfl, hb7⟩
        obtain ⟨hc7, hf7⟩ := bcell hb7
        have hz7 := hb7.size
        try simp at hz7
        have z7_0 : w.heap.size < w7.heap.size := by omega
        have z7_1 : w.heap.size + 1 < w7.heap.size := by omega
        have z7_2 : w.heap.size + 1 + 1 < w7.heap.size := by omega
        have z7_3 : w.heap.size + 1 + 1 + 1 < w7.heap.size := by omega
        have z7_4 : w.heap.size + 1 + 1 + 1 + 1 < w7.heap.size := by omega
        have z7_5 : w1.heap.size < w7.heap.size := by omega
        have z7_6 : w2.heap.size < w7.heap.size := by omega
        have z7_7 : w4.heap.size < w7.heap.size := by omega
        have z7_8 : w5.heap.size < w7.heap.size := by omega
        have z7_9 : w5.heap.size + 1 < w7.heap.size := by omega
        go_wp2_with fail
        refine (to_v (pt_v (Int.zero_emod M) (Int.zero_emod M) (Int.zero_emod M)) (place_t _ _ _ _ _ HR.out)).mono ?_
        rintro e w8 ⟨rfl, hb8⟩
        obtain ⟨hc8, hf8⟩ := bcell hb8
        have hz8 := hb8.size
        try simp at hz8
        have z8_0 : w.heap.size < w8.heap.size := by omega
        have z8_1 : w.heap.size + 1 < w8.heap.size := by omega
        have z8_2 : w.heap.size + 1 + 1 < w8.heap.size := by omega
        have z8_3 : w.heap.size + 1 + 1 + 1 < w8.heap.size := by omega
        have z8_4 : w.heap.size + 1 + 1 + 1 + 1 < w8.heap.size := by omega
        have z8_5 : w1.heap.size < w8.heap.size := by omega
        have z8_6 : w2.heap.size < w8.heap.size := by omega
        have z8_7 : w4.heap.size < w8.heap.size := by omega
        have z8_8 : w5.heap.size < w8.heap.size := by omega
        have z8_9 : w5.heap.size + 1 < w8.heap.size := by omega
        have z8_10 : w7.heap.size < w8.heap.size := by omega
        go_wp2_with fail
        refine (to_v (pt_v EV.out.1 EV.out.2.1 EV.out.2.2) (shift_t _ _ _ _ _ _ _ _ HO.out)).mono ?_
        rintro e w9 ⟨rfl, hb9⟩
        obtain ⟨hc9, hf9⟩ := bcell hb9
        have hz9 := hb9.size
        try simp at hz9
        have z9_0 : w.heap.size < w9.heap.size := by omega
        have z9_1 : w.heap.size + 1 < w9.heap.size := by omega
        have z9_2 : w.heap.size + 1 + 1 < w9.heap.size := by omega
        have z9_3 : w.heap.size + 1 + 1 + 1 < w9.heap.size := by omega
        have z9_4 : w.heap.size + 1 + 1 + 1 + 1 < w9.heap.size := by omega
        have z9_5 : w1.heap.size < w9.heap.size := by omega
        have z9_6 : w2.heap.size < w9.heap.size := by omega
        have z9_7 : w4.heap.size < w9.heap.size := by omega
        have z9_8 : w5.heap.size < w9.heap.size := by omega
        have z9_9 : w5.heap.size + 1 < w9.heap.size := by omega
        have z9_10 : w7.heap.size < w9.heap.size := by omega
        have z9_11 : w8.heap.size < w9.heap.size := by omega
        go_wp2_with fail
        refine (to_v (pt_v EO.out.1 EO.out.2.1 EO.out.2.2) (opp_t _ _ _ _ _ HP.out)).mono ?_
        rintro e w10 ⟨rfl, hb10⟩
        obtain ⟨hc10, hf10⟩ := bcell hb10
        have hz10 := hb10.size
        try simp at hz10
        have z10_0 : w.heap.size < w10.heap.size := by omega
        have z10_1 : w.heap.size + 1 < w10.heap.size := by omega
        have z10_2 : w.heap.size + 1 + 1 < w10.heap.size := by omega
        have z10_3 : w.heap.size + 1 + 1 + 1 < w10.heap.size := by omega
        have z10_4 : w.heap.size + 1 + 1 + 1 + 1 < w10.heap.size := by omega
        have z10_5 : w1.heap.size < w10.heap.size := by omega
        have z10_6 : w2.heap.size < w10.heap.size := by omega
        have z10_7 : w4.heap.size < w10.heap.size := by omega
        have z10_8 : w5.heap.size < w10.heap.size := by omega
        have z10_9 : w5.heap.size + 1 < w10.heap.size := by omega
        have z10_10 : w7.heap.size < w10.heap.size := by omega
        have z10_11 : w8.heap.size < w10.heap.size := by omega
        have z10_12 : w9.heap.size < w10.heap.size := by omega
        go_wp2_with fail
        refine (to_v (pt_v EO.out.1 EO.out.2.1 EO.out.2.2) (minus_t _ _ _ _ _ _ _ _ HO.out HP.out)).mono ?_
        rintro e w11 ⟨rfl, hb11⟩
        obtain ⟨hc11, hf11⟩ := bcell hb11
        have hz11 := hb11.size
        try simp at hz11
        have z11_0 : w.heap.size < w11.heap.size := by omega
        have z11_1 : w.heap.size + 1 < w11.heap.size := by omega
        have z11_2 : w.heap.size + 1 + 1 < w11.heap.size := by omega
        have z11_3 : w.heap.size + 1 + 1 + 1 < w11.heap.size := by omega
        have z11_4 : w.heap.size + 1 + 1 + 1 + 1 < w11.heap.size := by omega
        have z11_5 : w1.heap.size < w11.heap.size := by omega
        have z11_6 : w2.heap.size < w11.heap.size := by omega
        have z11_7 : w4.heap.size < w11.heap.size := by omega
        have z11_8 : w5.heap.size < w11.heap.size := by omega
        have z11_9 : w5.heap.size + 1 < w11.heap.size := by omega
        have z11_10 : w7.heap.size < w11.heap.size := by omega
        have z11_11 : w8.heap.size < w11.heap.size := by omega
        have z11_12 : w9.heap.size < w11.heap.size := by omega
        have z11_13 : w10.heap.size < w11.heap.size := by omega
        go_wp2_with fail
        refine (to_v (by rw [HP.out]) (form_any _ _ _ _ _)).mono ?_
        rintro e w12 ⟨rfl, hb12⟩
        obtain ⟨hc12, hf12⟩ := bcell hb12
        have hz12 := hb12.size
        try simp at hz12
        have z12_0 : w.heap.size < w12.heap.size := by omega
        have z12_1 : w.heap.size + 1 < w12.heap.size := by omega
        have z12_2 : w.heap.size + 1 + 1 < w12.heap.size := by omega
        have z12_3 : w.heap.size + 1 + 1 + 1 < w12.heap.size := by omega
        have z12_4 : w.heap.size + 1 + 1 + 1 + 1 < w12.heap.size := by omega
        have z12_5 : w1.heap.size < w12.heap.size := by omega
        have z12_6 : w2.heap.size < w12.heap.size := by omega
        have z12_7 : w4.heap.size < w12.heap.size := by omega
        have z12_8 : w5.heap.size < w12.heap.size := by omega
        have z12_9 : w5.heap.size + 1 < w12.heap.size := by omega
        have z12_10 : w7.heap.size < w12.heap.size := by omega
        have z12_11 : w8.heap.size < w12.heap.size := by omega
        have z12_12 : w9.heap.size < w12.heap.size := by omega
        have z12_13 : w10.heap.size < w12.heap.size := by omega
        have z12_14 : w11.heap.size < w12.heap.size := by omega
        go_wp2_with fail
        refine (to_v (pt_v EF.out.1 EF.out.2.1 EF.out.2.2) (finer_t _ _ _ _ _ _ r192 HP.out (dvd192 HR.out))).mono ?_
        rintro e w13 ⟨rfl, hb13⟩
        obtain ⟨hc13, hf13⟩ := bcell hb13
        have hz13 := hb13.size
        try simp at hz13
        have z13_0 : w.heap.size < w13.heap.size := by omega
        have z13_1 : w.heap.size + 1 < w13.heap.size := by omega
        have z13_2 : w.heap.size + 1 + 1 < w13.heap.size := by omega
        have z13_3 : w.heap.size + 1 + 1 + 1 < w13.heap.size := by omega
        have z13_4 : w.heap.size + 1 + 1 + 1 + 1 < w13.heap.size := by omega
        have z13_5 : w1.heap.size < w13.heap.size := by omega
        have z13_6 : w2.heap.size < w13.heap.size := by omega
        have z13_7 : w4.heap.size < w13.heap.size := by omega
        have z13_8 : w5.heap.size < w13.heap.size := by omega
        have z13_9 : w5.heap.size + 1 < w13.heap.size := by omega
        have z13_10 : w7.heap.size < w13.heap.size := by omega
        have z13_11 : w8.heap.size < w13.heap.size := by omega
        have z13_12 : w9.heap.size < w13.heap.size := by omega
        have z13_13 : w10.heap.size < w13.heap.size := by omega
        have z13_14 : w11.heap.size < w13.heap.size := by omega
        go_wp2_with fail
        refine (to_v (ord_v EZ.out) (order_t _ _ _ _ _ _ _ _ _ HF.out HP.out)).mono ?_
        rintro e w14 ⟨rfl, hb14⟩
        obtain ⟨hc14, hf14⟩ := bcell hb14
        have hz14 := hb14.size
        try simp at hz14
        have z14_0 : w.heap.size < w14.heap.size := by omega
        have z14_1 : w.heap.size + 1 < w14.heap.size := by omega
        have z14_2 : w.heap.size + 1 + 1 < w14.heap.size := by omega
        have z14_3 : w.heap.size + 1 + 1 + 1 < w14.heap.size := by omega
        have z14_4 : w.heap.size + 1 + 1 + 1 + 1 < w14.heap.size := by omega
        have z14_5 : w1.heap.size < w14.heap.size := by omega
        have z14_6 : w2.heap.size < w14.heap.size := by omega
        have z14_7 : w4.heap.size < w14.heap.size := by omega
        have z14_8 : w5.heap.size < w14.heap.size := by omega
        have z14_9 : w5.heap.size + 1 < w14.heap.size := by omega
        have z14_10 : w7.heap.size < w14.heap.size := by omega
        have z14_11 : w8.heap.size < w14.heap.size := by omega
        have z14_12 : w9.heap.size < w14.heap.size := by omega
        have z14_13 : w10.heap.size < w14.heap.size := by omega
        have z14_14 : w11.heap.size < w14.heap.size := by omega
        have z14_15 : w13.heap.size < w14.heap.size := by omega
        go_wp2_with fail
        refine (to_v (ord_v ER.out) (order_t _ _ _ _ _ _ _ _ _ HP.out HQ.out)).mono ?_
        rintro e w15 ⟨rfl, hb15⟩
        obtain ⟨hc15, hf15⟩ := bcell hb15
        have hz15 := hb15.size
        try simp at hz15
        have z15_0 : w.heap.size < w15.heap.size := by omega
        have z15_1 : w.heap.size + 1 < w15.heap.size := by omega
        have z15_2 : w.heap.size + 1 + 1 < w15.heap.size := by omega
        have z15_3 : w.heap.size + 1 + 1 + 1 < w15.heap.size := by omega
        have z15_4 : w.heap.size + 1 + 1 + 1 + 1 < w15.heap.size := by omega
        have z15_5 : w1.heap.size < w15.heap.size := by omega
        have z15_6 : w2.heap.size < w15.heap.size := by omega
        have z15_7 : w4.heap.size < w15.heap.size := by omega
        have z15_8 : w5.heap.size < w15.heap.size := by omega
        have z15_9 : w5.heap.size + 1 < w15.heap.size := by omega
        have z15_10 : w7.heap.size < w15.heap.size := by omega
        have z15_11 : w8.heap.size < w15.heap.size := by omega
        have z15_12 : w9.heap.size < w15.heap.size := by omega
        have z15_13 : w10.heap.size < w15.heap.size := by omega
        have z15_14 : w11.heap.size < w15.heap.size := by omega
        have z15_15 : w13.heap.size < w15.heap.size := by omega
        go_wp2_with fail
        refine (to_v (ord_v ES.out) (order_t _ _ _ _ _ _ _ _ _ HQ.out HP.out)).mono ?_
        rintro e w16 ⟨rfl, hb16⟩
        obtain ⟨hc16, hf16⟩ := bcell hb16
        have hz16 := hb16.size
        try simp at hz16
        have z16_0 : w.heap.size < w16.heap.size := by omega
        have z16_1 : w.heap.size + 1 < w16.heap.size := by omega
        have z16_2 : w.heap.size + 1 + 1 < w16.heap.size := by omega
        have z16_3 : w.heap.size + 1 + 1 + 1 < w16.heap.size := by omega
        have z16_4 : w.heap.size + 1 + 1 + 1 + 1 < w16.heap.size := by omega
        have z16_5 : w1.heap.size < w16.heap.size := by omega
        have z16_6 : w2.heap.size < w16.heap.size := by omega
        have z16_7 : w4.heap.size < w16.heap.size := by omega
        have z16_8 : w5.heap.size < w16.heap.size := by omega
        have z16_9 : w5.heap.size + 1 < w16.heap.size := by omega
        have z16_10 : w7.heap.size < w16.heap.size := by omega
        have z16_11 : w8.heap.size < w16.heap.size := by omega
        have z16_12 : w9.heap.size < w16.heap.size := by omega
        have z16_13 : w10.heap.size < w16.heap.size := by omega
        have z16_14 : w11.heap.size < w16.heap.size := by omega
        have z16_15 : w13.heap.size < w16.heap.size := by omega
        go_wp2
        go_ret
        refine ⟨rfl, ?_⟩
        repeat (first | exact Below.refl _ _ | assumption | exact Below.alloc (Below.refl _ _) (Nat.le_refl _) _ | refine Below.setCell ?_ (by first | (simp; done) | (simp; omega) | omega) _ | refine below_drewN ?_ _ | refine Below.alloc ?_ (by first | (simp; done) | (simp; omega) | omega) _ | refine Below.trans ?_ (Below.mono (by assumption) (by first | (simp; done) | (simp; omega) | omega)))

end Go.Proofs.Ytpjljlnkfimbaaa
