/-
  The law FracPlaces, walked: it returns true.
-/
import Derived.Test.YtpjljlnkfimbaaaFracI
namespace Go.Proofs.Ytpjljlnkfimbaaa
open Go.RowKit
attribute [local irreducible] World.setCell

set_option maxHeartbeats 400000 in
theorem places_r (m x y z k a0 a1 a2 : Int) (w : World) (hk : rightB k = false):
    Calls Try.prog 3 #[.agg #[.int .i64 m, .int .i64 x, .int .i64 y, .int .i64 z], .int .i64 k, .agg #[.int .i64 a0, .int .i64 a1, .int .i64 a2]] w fun e w' => e = .returned (.bool true) ∧ Below w.heap.size w w' := by
  have H := Lib.hid hk; clear hk
  go_enter Try.func3, Try.ntmps3
  go_wp2
  refine region_all (by kernel_rfl) (by kernel_rfl) ?_
  repeat (go_big_quiet_step (first | (go_at_call 10; exact held_of _ (Nat.le_refl _) (awake_any _)) | (go_at_call 11; exact held_of _ (Nat.le_refl _) (form_any _ _ _ _ _)) | (go_at_call 12; exact held_of _ (Nat.le_refl _) (rform_any _ _ _ _ _))))
  refine wpQuiet_nil ?_
  rintro w' ⟨⟨w0, hb⟩, rfl⟩
  obtain ⟨hc, hf⟩ := bcell hb
  have hz := hb.size
  try simp at hz
  try have z0 : w.heap.size < w'.heap.size := (by omega)
  try have z1 : w.heap.size + 1 < w'.heap.size := (by omega)
  try have z2 : w.heap.size + 1 + 1 < w'.heap.size := (by omega)
  go_wp2_with fail
  refine (place_f _ _ _ _ _ H.out).mono ?_
  rintro e w1 ⟨rfl, hb1⟩
  obtain ⟨hc1, hf1⟩ := bcell hb1
  have hz1 := hb1.size
  try simp at hz1
  have z1_0 : w.heap.size < w1.heap.size := by omega
  have z1_1 : w.heap.size + 1 < w1.heap.size := by omega
  go_wp2_with fail
  refine (dplace_f _ _ _ _ _ H.out).mono ?_
  rintro e w2 ⟨rfl, hb2⟩
  obtain ⟨hc2, hf2⟩ := bcell hb2
  have hz2 := hb2.size
  try simp at hz2
  have z2_0 : w.heap.size < w2.heap.size := by omega
  have z2_1 : w.heap.size + 1 < w2.heap.size := by omega
  have z2_2 : w1.heap.size < w2.heap.size := by omega
  go_wp2_with fail
  refine (finer_r _ _ _ _ _ _ H.out).mono ?_
  rintro e w3 ⟨rfl, hb3⟩
  obtain ⟨hc3, hf3⟩ := bcell hb3
  have hz3 := hb3.size
  try simp at hz3
  have z3_0 : w.heap.size < w3.heap.size := by omega
  have z3_1 : w.heap.size + 1 < w3.heap.size := by omega
  have z3_2 : w1.heap.size < w3.heap.size := by omega
  have z3_3 : w2.heap.size < w3.heap.size := by omega
  go_wp2_with fail
  refine (dfiner_r _ _ _ _ _ _ H.out).mono ?_
  rintro e w4 ⟨rfl, hb4⟩
  obtain ⟨hc4, hf4⟩ := bcell hb4
  have hz4 := hb4.size
  try simp at hz4
  have z4_0 : w.heap.size < w4.heap.size := by omega
  have z4_1 : w.heap.size + 1 < w4.heap.size := by omega
  have z4_2 : w1.heap.size < w4.heap.size := by omega
  have z4_3 : w2.heap.size < w4.heap.size := by omega
  go_wp2
  go_ret
  refine ⟨rfl, ?_⟩
  repeat (first | exact Below.refl _ _ | assumption | exact Below.alloc (Below.refl _ _) (Nat.le_refl _) _ | refine Below.setCell ?_ (by first | (simp; done) | (simp; omega) | omega) _ | refine below_drewN ?_ _ | refine Below.alloc ?_ (by first | (simp; done) | (simp; omega) | omega) _ | refine Below.trans ?_ (Below.mono (by assumption) (by first | (simp; done) | (simp; omega) | omega)))

set_option maxHeartbeats 400000 in
theorem places_f (m x y z k a0 a1 a2 : Int) (w : World) (hk : rightB k = true) (h : formB m x y z = false):
    Calls Try.prog 3 #[.agg #[.int .i64 m, .int .i64 x, .int .i64 y, .int .i64 z], .int .i64 k, .agg #[.int .i64 a0, .int .i64 a1, .int .i64 a2]] w fun e w' => e = .returned (.bool true) ∧ Below w.heap.size w w' := by
  have H := Lib.hid hk; clear hk; have G := Lib.hid h; clear h
  go_enter Try.func3, Try.ntmps3
  go_wp2
  refine region_all (by kernel_rfl) (by kernel_rfl) ?_
  repeat (go_big_quiet_step (first | (go_at_call 10; exact held_of _ (Nat.le_refl _) (awake_any _)) | (go_at_call 11; exact held_of _ (Nat.le_refl _) (form_any _ _ _ _ _)) | (go_at_call 12; exact held_of _ (Nat.le_refl _) (rform_any _ _ _ _ _))))
  refine wpQuiet_nil ?_
  rintro w' ⟨⟨w0, hb⟩, rfl⟩
  obtain ⟨hc, hf⟩ := bcell hb
  have hz := hb.size
  try simp at hz
  try have z0 : w.heap.size < w'.heap.size := (by omega)
  try have z1 : w.heap.size + 1 < w'.heap.size := (by omega)
  try have z2 : w.heap.size + 1 + 1 < w'.heap.size := (by omega)
  go_wp2_with fail
  refine (place_t _ _ _ _ _ H.out).mono ?_
  rintro e w1 ⟨rfl, hb1⟩
  obtain ⟨hc1, hf1⟩ := bcell hb1
  have hz1 := hb1.size
  try simp at hz1
  have z1_0 : w.heap.size < w1.heap.size := by omega
  have z1_1 : w.heap.size + 1 < w1.heap.size := by omega
  go_wp2_with fail
  refine (dplace_t _ _ _ _ _ H.out).mono ?_
  rintro e w2 ⟨rfl, hb2⟩
  obtain ⟨hc2, hf2⟩ := bcell hb2
  have hz2 := hb2.size
  try simp at hz2
  have z2_0 : w.heap.size < w2.heap.size := by omega
  have z2_1 : w.heap.size + 1 < w2.heap.size := by omega
  have z2_2 : w1.heap.size < w2.heap.size := by omega
  go_wp2_with fail
  refine (finer_f _ _ _ _ _ _ H.out G.out).mono ?_
  rintro e w3 ⟨rfl, hb3⟩
  obtain ⟨hc3, hf3⟩ := bcell hb3
  have hz3 := hb3.size
  try simp at hz3
  have z3_0 : w.heap.size < w3.heap.size := by omega
  have z3_1 : w.heap.size + 1 < w3.heap.size := by omega
  have z3_2 : w1.heap.size < w3.heap.size := by omega
  have z3_3 : w2.heap.size < w3.heap.size := by omega
  go_wp2_with fail
  refine (dfiner_f _ _ _ _ _ _ H.out G.out).mono ?_
  rintro e w4 ⟨rfl, hb4⟩
  obtain ⟨hc4, hf4⟩ := bcell hb4
  have hz4 := hb4.size
  try simp at hz4
  have z4_0 : w.heap.size < w4.heap.size := by omega
  have z4_1 : w.heap.size + 1 < w4.heap.size := by omega
  have z4_2 : w1.heap.size < w4.heap.size := by omega
  have z4_3 : w2.heap.size < w4.heap.size := by omega
  go_wp2
  go_ret
  refine ⟨rfl, ?_⟩
  repeat (first | exact Below.refl _ _ | assumption | exact Below.alloc (Below.refl _ _) (Nat.le_refl _) _ | refine Below.setCell ?_ (by first | (simp; done) | (simp; omega) | omega) _ | refine below_drewN ?_ _ | refine Below.alloc ?_ (by first | (simp; done) | (simp; omega) | omega) _ | refine Below.trans ?_ (Below.mono (by assumption) (by first | (simp; done) | (simp; omega) | omega)))

set_option maxHeartbeats 400000 in
theorem places_d (m x y z k a0 a1 a2 : Int) (w : World) (hk : rightB k = true) (h : formB m x y z = true) (hd : k % m ≠ 0):
    Calls Try.prog 3 #[.agg #[.int .i64 m, .int .i64 x, .int .i64 y, .int .i64 z], .int .i64 k, .agg #[.int .i64 a0, .int .i64 a1, .int .i64 a2]] w fun e w' => e = .returned (.bool true) ∧ Below w.heap.size w w' := by
  have H := Lib.hid hk; clear hk; have G := Lib.hid h; clear h; have D := Lib.hid hd; clear hd
  go_enter Try.func3, Try.ntmps3
  go_wp2
  refine region_all (by kernel_rfl) (by kernel_rfl) ?_
  repeat (go_big_quiet_step (first | (go_at_call 10; exact held_of _ (Nat.le_refl _) (awake_any _)) | (go_at_call 11; exact held_of _ (Nat.le_refl _) (form_any _ _ _ _ _)) | (go_at_call 12; exact held_of _ (Nat.le_refl _) (rform_any _ _ _ _ _))))
  refine wpQuiet_nil ?_
  rintro w' ⟨⟨w0, hb⟩, rfl⟩
  obtain ⟨hc, hf⟩ := bcell hb
  have hz := hb.size
  try simp at hz
  try have z0 : w.heap.size < w'.heap.size := (by omega)
  try have z1 : w.heap.size + 1 < w'.heap.size := (by omega)
  try have z2 : w.heap.size + 1 + 1 < w'.heap.size := (by omega)
  go_wp2_with fail
  refine (place_t _ _ _ _ _ H.out).mono ?_
  rintro e w1 ⟨rfl, hb1⟩
  obtain ⟨hc1, hf1⟩ := bcell hb1
  have hz1 := hb1.size
  try simp at hz1
  have z1_0 : w.heap.size < w1.heap.size := by omega
  have z1_1 : w.heap.size + 1 < w1.heap.size := by omega
  go_wp2_with fail
  refine (dplace_t _ _ _ _ _ H.out).mono ?_
  rintro e w2 ⟨rfl, hb2⟩
  obtain ⟨hc2, hf2⟩ := bcell hb2
  have hz2 := hb2.size
  try simp at hz2
  have z2_0 : w.heap.size < w2.heap.size := by omega
  have z2_1 : w.heap.size + 1 < w2.heap.size := by omega
  have z2_2 : w1.heap.size < w2.heap.size := by omega
  go_wp2_with fail
  refine (finer_d _ _ _ _ _ _ H.out G.out D.out).mono ?_
  rintro e w3 ⟨rfl, hb3⟩
  obtain ⟨hc3, hf3⟩ := bcell hb3
  have hz3 := hb3.size
  try simp at hz3
  have z3_0 : w.heap.size < w3.heap.size := by omega
  have z3_1 : w.heap.size + 1 < w3.heap.size := by omega
  have z3_2 : w1.heap.size < w3.heap.size := by omega
  have z3_3 : w2.heap.size < w3.heap.size := by omega
  go_wp2_with fail
  refine (dfiner_d _ _ _ _ _ _ H.out G.out D.out).mono ?_
  rintro e w4 ⟨rfl, hb4⟩
  obtain ⟨hc4, hf4⟩ := bcell hb4
  have hz4 := hb4.size
  try simp at hz4
  have z4_0 : w.heap.size < w4.heap.size := by omega
  have z4_1 : w.heap.size + 1 < w4.heap.size := by omega
  have z4_2 : w1.heap.size < w4.heap.size := by omega
  have z4_3 : w2.heap.size < w4.heap.size := by omega
  go_wp2
  go_ret
  refine ⟨rfl, ?_⟩
  repeat (first | exact Below.refl _ _ | assumption | exact Below.alloc (Below.refl _ _) (Nat.le_refl _) _ | refine Below.setCell ?_ (by first | (simp; done) | (simp; omega) | omega) _ | refine below_drewN ?_ _ | refine Below.alloc ?_ (by first | (simp; done) | (simp; omega) | omega) _ | refine Below.trans ?_ (Below.mono (by assumption) (by first | (simp; done) | (simp; omega) | omega)))

set_option maxHeartbeats 400000 in
theorem places_t (m x y z k a0 a1 a2 : Int) (w : World) (hk : rightB k = true) (h : formB m x y z = true) (hd : k % m = 0):
    Calls Try.prog 3 #[.agg #[.int .i64 m, .int .i64 x, .int .i64 y, .int .i64 z], .int .i64 k, .agg #[.int .i64 a0, .int .i64 a1, .int .i64 a2]] w fun e w' => e = .returned (.bool true) ∧ Below w.heap.size w w' := by
  have H := Lib.hid hk; clear hk; have G := Lib.hid h; clear h; have D := Lib.hid hd; clear hd
  go_enter Try.func3, Try.ntmps3
  go_wp2
  refine region_all (by kernel_rfl) (by kernel_rfl) ?_
  repeat (go_big_quiet_step (first | (go_at_call 10; exact held_of _ (Nat.le_refl _) (awake_any _)) | (go_at_call 11; exact held_of _ (Nat.le_refl _) (form_any _ _ _ _ _)) | (go_at_call 12; exact held_of _ (Nat.le_refl _) (rform_any _ _ _ _ _))))
  refine wpQuiet_nil ?_
  rintro w' ⟨⟨w0, hb⟩, rfl⟩
  obtain ⟨hc, hf⟩ := bcell hb
  have hz := hb.size
  try simp at hz
  try have z0 : w.heap.size < w'.heap.size := (by omega)
  try have z1 : w.heap.size + 1 < w'.heap.size := (by omega)
  try have z2 : w.heap.size + 1 + 1 < w'.heap.size := (by omega)
  go_wp2_with fail
  refine (place_t _ _ _ _ _ H.out).mono ?_
  rintro e w1 ⟨rfl, hb1⟩
  obtain ⟨hc1, hf1⟩ := bcell hb1
  have hz1 := hb1.size
  try simp at hz1
  have z1_0 : w.heap.size < w1.heap.size := by omega
  have z1_1 : w.heap.size + 1 < w1.heap.size := by omega
  go_wp2_with fail
  refine (dplace_t _ _ _ _ _ H.out).mono ?_
  rintro e w2 ⟨rfl, hb2⟩
  obtain ⟨hc2, hf2⟩ := bcell hb2
  have hz2 := hb2.size
  try simp at hz2
  have z2_0 : w.heap.size < w2.heap.size := by omega
  have z2_1 : w.heap.size + 1 < w2.heap.size := by omega
  have z2_2 : w1.heap.size < w2.heap.size := by omega
  go_wp2_with fail
  refine (finer_t _ _ _ _ _ _ H.out G.out D.out).mono ?_
  rintro e w3 ⟨rfl, hb3⟩
  obtain ⟨hc3, hf3⟩ := bcell hb3
  have hz3 := hb3.size
  try simp at hz3
  have z3_0 : w.heap.size < w3.heap.size := by omega
  have z3_1 : w.heap.size + 1 < w3.heap.size := by omega
  have z3_2 : w1.heap.size < w3.heap.size := by omega
  have z3_3 : w2.heap.size < w3.heap.size := by omega
  go_wp2_with fail
  refine (dfiner_t _ _ _ _ _ _ H.out G.out D.out).mono ?_
  rintro e w4 ⟨rfl, hb4⟩
  obtain ⟨hc4, hf4⟩ := bcell hb4
  have hz4 := hb4.size
  try simp at hz4
  have z4_0 : w.heap.size < w4.heap.size := by omega
  have z4_1 : w.heap.size + 1 < w4.heap.size := by omega
  have z4_2 : w1.heap.size < w4.heap.size := by omega
  have z4_3 : w2.heap.size < w4.heap.size := by omega
  go_wp2
  go_ret
  refine ⟨rfl, ?_⟩
  repeat (first | exact Below.refl _ _ | assumption | exact Below.alloc (Below.refl _ _) (Nat.le_refl _) _ | refine Below.setCell ?_ (by first | (simp; done) | (simp; omega) | omega) _ | refine below_drewN ?_ _ | refine Below.alloc ?_ (by first | (simp; done) | (simp; omega) | omega) _ | refine Below.trans ?_ (Below.mono (by assumption) (by first | (simp; done) | (simp; omega) | omega)))

theorem places_any (m x y z k a0 a1 a2 : Int) (w : World) : Calls Try.prog 3 #[.agg #[.int .i64 m, .int .i64 x, .int .i64 y, .int .i64 z], .int .i64 k, .agg #[.int .i64 a0, .int .i64 a1, .int .i64 a2]] w fun e w' => e = .returned (.bool true) ∧ Below w.heap.size w w' := by
  cases hk : rightB k with
  | false => exact places_r m x y z k a0 a1 a2 w hk
  | true =>
    cases h : formB m x y z with
    | false => exact places_f m x y z k a0 a1 a2 w hk h
    | true =>
      by_cases hd : k % m = 0
      · exact places_t m x y z k a0 a1 a2 w hk h hd
      · exact places_d m x y z k a0 a1 a2 w hk h hd

end Go.Proofs.Ytpjljlnkfimbaaa
