/-
  The reference's order of places, for every input; sums brought into a range.
-/
import Derived.Test.YtpjljlnkfimbaaaFracH
namespace Go.Proofs.Ytpjljlnkfimbaaa
open Go.RowKit
attribute [local irreducible] World.setCell

theorem cmpC_lt {a b : Int} (h : a < b) : cmpC a b = -1 := by unfold cmpC; rw [if_pos h]
theorem cmpC_gt {a b : Int} (h : b < a) : cmpC a b = 1 := by unfold cmpC; rw [if_neg (by omega), if_pos h]
theorem cmpC_eq {a : Int} : cmpC a a = 0 := by unfold cmpC; simp

set_option maxHeartbeats 1600000 in
theorem compare_any (a0 a1 a2 b0 b1 b2 : Int) (w : World) :
    Calls Try.prog 51 #[.agg #[.int .i64 a0, .int .i64 a1, .int .i64 a2], .agg #[.int .i64 b0, .int .i64 b1, .int .i64 b2]] w fun e w' => e = .returned (.int .i64 (lexC a0 a1 a2 b0 b1 b2)) ∧ Below w.heap.size w w' := by
  go_enter Try.func51, Try.ntmps51
  go_wp2
  refine wp_loop_rounds 4 ?_
  rw [rounds_succ]
  rcases Int.lt_trichotomy a0 b0 with h0 | h0 | h0
  · have E := Lib.hid (cmpC_lt h0)
    go_wp2
    go_quiet (fail)
    go_wp2
    go_ret
    refine ⟨ret_int (by unfold lexC; rw [if_neg (by rw [E.out]; omega), E.out]), ?_⟩
    repeat (first | exact Below.refl _ _ | assumption | exact Below.alloc (Below.refl _ _) (Nat.le_refl _) _ | refine Below.setCell ?_ (by first | (simp; done) | (simp; omega) | omega) _ | refine below_drewN ?_ _ | refine Below.alloc ?_ (by first | (simp; done) | (simp; omega) | omega) _ | refine Below.trans ?_ (Below.mono (by assumption) (by first | (simp; done) | (simp; omega) | omega)))
  · subst h0
    go_wp2
    go_quiet (fail)
    go_wp2
    go_quiet (fail)
    go_wp2
    rw [rounds_succ]
    rcases Int.lt_trichotomy a1 b1 with h1 | h1 | h1
    · have E := Lib.hid (cmpC_lt h1)
      go_wp2
      go_quiet (fail)
      go_wp2
      go_ret
      refine ⟨ret_int (by unfold lexC; rw [if_pos cmpC_eq, if_neg (by rw [E.out]; omega), E.out]), ?_⟩
      repeat (first | exact Below.refl _ _ | assumption | exact Below.alloc (Below.refl _ _) (Nat.le_refl _) _ | refine Below.setCell ?_ (by first | (simp; done) | (simp; omega) | omega) _ | refine below_drewN ?_ _ | refine Below.alloc ?_ (by first | (simp; done) | (simp; omega) | omega) _ | refine Below.trans ?_ (Below.mono (by assumption) (by first | (simp; done) | (simp; omega) | omega)))
    · subst h1
      go_wp2
      go_quiet (fail)
      go_wp2
      go_quiet (fail)
      go_wp2
      rw [rounds_succ]
      rcases Int.lt_trichotomy a2 b2 with h2 | h2 | h2
      · have E := Lib.hid (cmpC_lt h2)
        go_wp2
        go_quiet (fail)
        go_wp2
        go_ret
        refine ⟨ret_int (by unfold lexC; rw [if_pos cmpC_eq, if_pos cmpC_eq, E.out]), ?_⟩
        repeat (first | exact Below.refl _ _ | assumption | exact Below.alloc (Below.refl _ _) (Nat.le_refl _) _ | refine Below.setCell ?_ (by first | (simp; done) | (simp; omega) | omega) _ | refine below_drewN ?_ _ | refine Below.alloc ?_ (by first | (simp; done) | (simp; omega) | omega) _ | refine Below.trans ?_ (Below.mono (by assumption) (by first | (simp; done) | (simp; omega) | omega)))
      · subst h2
        go_wp2
        go_quiet (fail)
        go_wp2
        go_quiet (fail)
        go_wp2
        rw [rounds_succ]
        go_wp2
        go_ret
        refine ⟨ret_int (by unfold lexC; rw [if_pos cmpC_eq, if_pos cmpC_eq, cmpC_eq]), ?_⟩
        repeat (first | exact Below.refl _ _ | assumption | exact Below.alloc (Below.refl _ _) (Nat.le_refl _) _ | refine Below.setCell ?_ (by first | (simp; done) | (simp; omega) | omega) _ | refine below_drewN ?_ _ | refine Below.alloc ?_ (by first | (simp; done) | (simp; omega) | omega) _ | refine Below.trans ?_ (Below.mono (by assumption) (by first | (simp; done) | (simp; omega) | omega)))
      · have E := Lib.hid (cmpC_gt h2)
        have hn : ¬ a2 < b2 := by omega
        go_wp2
        go_quiet (fail)
        go_wp2
        go_quiet (fail)
        go_wp2
        go_ret
        refine ⟨ret_int (by unfold lexC; rw [if_pos cmpC_eq, if_pos cmpC_eq, E.out]), ?_⟩
        repeat (first | exact Below.refl _ _ | assumption | exact Below.alloc (Below.refl _ _) (Nat.le_refl _) _ | refine Below.setCell ?_ (by first | (simp; done) | (simp; omega) | omega) _ | refine below_drewN ?_ _ | refine Below.alloc ?_ (by first | (simp; done) | (simp; omega) | omega) _ | refine Below.trans ?_ (Below.mono (by assumption) (by first | (simp; done) | (simp; omega) | omega)))
    · have E := Lib.hid (cmpC_gt h1)
      have hn : ¬ a1 < b1 := by omega
      go_wp2
      go_quiet (fail)
      go_wp2
      go_quiet (fail)
      go_wp2
      go_ret
      refine ⟨ret_int (by unfold lexC; rw [if_pos cmpC_eq, if_neg (by rw [E.out]; omega), E.out]), ?_⟩
      repeat (first | exact Below.refl _ _ | assumption | exact Below.alloc (Below.refl _ _) (Nat.le_refl _) _ | refine Below.setCell ?_ (by first | (simp; done) | (simp; omega) | omega) _ | refine below_drewN ?_ _ | refine Below.alloc ?_ (by first | (simp; done) | (simp; omega) | omega) _ | refine Below.trans ?_ (Below.mono (by assumption) (by first | (simp; done) | (simp; omega) | omega)))
  · have E := Lib.hid (cmpC_gt h0)
    have hn : ¬ a0 < b0 := by omega
    go_wp2
    go_quiet (fail)
    go_wp2
    go_quiet (fail)
    go_wp2
    go_ret
    refine ⟨ret_int (by unfold lexC; rw [if_neg (by rw [E.out]; omega), E.out]), ?_⟩
    repeat (first | exact Below.refl _ _ | assumption | exact Below.alloc (Below.refl _ _) (Nat.le_refl _) _ | refine Below.setCell ?_ (by first | (simp; done) | (simp; omega) | omega) _ | refine below_drewN ?_ _ | refine Below.alloc ?_ (by first | (simp; done) | (simp; omega) | omega) _ | refine Below.trans ?_ (Below.mono (by assumption) (by first | (simp; done) | (simp; omega) | omega)))

set_option maxHeartbeats 400000 in
theorem times2_any (m x y z : Int) (w : World) (h : formB m x y z = true):
    Calls Try.prog 52 #[.agg #[.int .i64 m, .int .i64 x, .int .i64 y, .int .i64 z]] w fun e w' => e = .returned (.agg #[.int .i64 (x * (192 / m)), .int .i64 (y * (192 / m)), .int .i64 (z * (192 / m))]) ∧ Below w.heap.size w w' := by
  obtain ⟨⟨m1, m2⟩, hx, hy, hz0⟩ := form_hm h
  obtain ⟨q1, q2⟩ := ediv_bd 192 m (by omega) (by omega) m1
  obtain ⟨p0, p0'⟩ := mul_bd192 (192 / m) x q1 q2 (by omega) (by omega)
  obtain ⟨p1, p1'⟩ := mul_bd192 (192 / m) y q1 q2 (by omega) (by omega)
  obtain ⟨p2, p2'⟩ := mul_bd192 (192 / m) z q1 q2 (by omega) (by omega)
  clear hx hy hz0
  go_enter Try.func52, Try.ntmps52
  go_wp2
  refine bodyPost_ret (v := .agg #[.int .i64 (192 / m * x), .int .i64 (192 / m * y), .int .i64 (192 / m * z)]) (by simp [results, Try.results52, go_sem, *]) rfl ⟨vec_eq (Int.mul_comm _ _) (Int.mul_comm _ _) (Int.mul_comm _ _), ?_⟩
  repeat (first | exact Below.refl _ _ | assumption | exact Below.alloc (Below.refl _ _) (Nat.le_refl _) _ | refine Below.setCell ?_ (by first | (simp; done) | (simp; omega) | omega) _ | refine below_drewN ?_ _ | refine Below.alloc ?_ (by first | (simp; done) | (simp; omega) | omega) _ | refine Below.trans ?_ (Below.mono (by assumption) (by first | (simp; done) | (simp; omega) | omega)))

set_option maxHeartbeats 400000 in
theorem rorder_any (m x y z m' x' y' z' : Int) (w : World) (h : formB m x y z = true) (h' : formB m' x' y' z' = true):
    Calls Try.prog 49 #[.agg #[.int .i64 m, .int .i64 x, .int .i64 y, .int .i64 z], .agg #[.int .i64 m', .int .i64 x', .int .i64 y', .int .i64 z']] w fun e w' => e = .returned (.int .i64 (lexC (x * (192 / m)) (y * (192 / m)) (z * (192 / m)) (x' * (192 / m')) (y' * (192 / m')) (z' * (192 / m')))) ∧ Below w.heap.size w w' := by
  have H1 := Lib.hid h; have H2 := Lib.hid h'
  clear h h'
  go_enter Try.func49, Try.ntmps49
  go_wp2
  refine region_all (by kernel_rfl) (by kernel_rfl) ?_
  repeat (go_big_quiet_step (first | (go_at_call 52; exact held_of _ (Nat.le_refl _) (times2_any _ _ _ _ _ (by first | exact H1.out | exact H2.out))) | (go_at_call 51; exact held_of _ (Nat.le_refl _) (compare_any _ _ _ _ _ _ _))))
  refine wpQuiet_nil ?_
  rintro w' ⟨⟨w0, hb⟩, rfl⟩
  obtain ⟨hc, hf⟩ := bcell hb
  go_wp2
  go_ret
  refine ⟨rfl, ?_⟩
  repeat (first | exact Below.refl _ _ | assumption | exact Below.alloc (Below.refl _ _) (Nat.le_refl _) _ | refine Below.setCell ?_ (by first | (simp; done) | (simp; omega) | omega) _ | refine below_drewN ?_ _ | refine Below.alloc ?_ (by first | (simp; done) | (simp; omega) | omega) _ | refine Below.trans ?_ (Below.mono (by assumption) (by first | (simp; done) | (simp; omega) | omega)))

set_option maxHeartbeats 400000 in
theorem dorder_f1 (m x y z m' x' y' z' : Int) (w : World) (h : formB m x y z = false):
    Calls Try.prog 32 #[.agg #[.int .i64 m, .int .i64 x, .int .i64 y, .int .i64 z], .agg #[.int .i64 m', .int .i64 x', .int .i64 y', .int .i64 z']] w fun e w' => e = .returned (.tuple #[.int .i64 0, .int .i64 3]) ∧ Below w.heap.size w w' := by
  go_enter Try.func32, Try.ntmps32
  go_wp2_with (go_at_call 12; refine (rform_any _ _ _ _ _).mono ?_; rintro e w' ⟨rfl, hb⟩; obtain ⟨hc, hf⟩ := bcell hb; have hz := hb.size; (try simp at hz); try have z0 : w.heap.size < w'.heap.size := (by omega); try have z1 : w.heap.size + 1 < w'.heap.size := (by omega))
  go_ret2
  refine ⟨rfl, ?_⟩
  repeat (first | exact Below.refl _ _ | assumption | exact Below.alloc (Below.refl _ _) (Nat.le_refl _) _ | refine Below.setCell ?_ (by first | (simp; done) | (simp; omega) | omega) _ | refine below_drewN ?_ _ | refine Below.alloc ?_ (by first | (simp; done) | (simp; omega) | omega) _ | refine Below.trans ?_ (Below.mono (by assumption) (by first | (simp; done) | (simp; omega) | omega)))

set_option maxHeartbeats 400000 in
theorem dorder_f2 (m x y z m' x' y' z' : Int) (w : World) (h : formB m x y z = true) (h' : formB m' x' y' z' = false):
    Calls Try.prog 32 #[.agg #[.int .i64 m, .int .i64 x, .int .i64 y, .int .i64 z], .agg #[.int .i64 m', .int .i64 x', .int .i64 y', .int .i64 z']] w fun e w' => e = .returned (.tuple #[.int .i64 0, .int .i64 3]) ∧ Below w.heap.size w w' := by
  go_enter Try.func32, Try.ntmps32
  go_wp2_with (go_at_call 12; refine (rform_any _ _ _ _ _).mono ?_; rintro e w' ⟨rfl, hb⟩; obtain ⟨hc, hf⟩ := bcell hb; have hz := hb.size; (try simp at hz); try have z0 : w.heap.size < w'.heap.size := (by omega); try have z1 : w.heap.size + 1 < w'.heap.size := (by omega))
  go_ret2
  refine ⟨rfl, ?_⟩
  repeat (first | exact Below.refl _ _ | assumption | exact Below.alloc (Below.refl _ _) (Nat.le_refl _) _ | refine Below.setCell ?_ (by first | (simp; done) | (simp; omega) | omega) _ | refine below_drewN ?_ _ | refine Below.alloc ?_ (by first | (simp; done) | (simp; omega) | omega) _ | refine Below.trans ?_ (Below.mono (by assumption) (by first | (simp; done) | (simp; omega) | omega)))

set_option maxHeartbeats 400000 in
theorem dorder_t (m x y z m' x' y' z' : Int) (w : World) (h : formB m x y z = true) (h' : formB m' x' y' z' = true):
    Calls Try.prog 32 #[.agg #[.int .i64 m, .int .i64 x, .int .i64 y, .int .i64 z], .agg #[.int .i64 m', .int .i64 x', .int .i64 y', .int .i64 z']] w fun e w' => e = .returned (.tuple #[.int .i64 (lexC (x * (192 / m)) (y * (192 / m)) (z * (192 / m)) (x' * (192 / m')) (y' * (192 / m')) (z' * (192 / m'))), .int .i64 0]) ∧ Below w.heap.size w w' := by
  have H1 := Lib.hid h; have H2 := Lib.hid h'
  go_enter Try.func32, Try.ntmps32
  go_wp2_with (first | (go_at_call 12; refine (rform_any _ _ _ _ _).mono ?_; rintro e w' ⟨rfl, hb⟩; obtain ⟨hc, hf⟩ := bcell hb; have hz := hb.size; (try simp at hz); try have z0 : w.heap.size < w'.heap.size := (by omega); try have z1 : w.heap.size + 1 < w'.heap.size := (by omega)) | (go_at_call 49; refine (rorder_any _ _ _ _ _ _ _ _ _ H1.out H2.out).mono ?_; rintro e w' ⟨rfl, hb⟩; obtain ⟨hc, hf⟩ := bcell hb; have hz := hb.size; (try simp at hz); try have z0 : w.heap.size < w'.heap.size := (by omega); try have z1 : w.heap.size + 1 < w'.heap.size := (by omega)))
  go_ret2
  refine ⟨rfl, ?_⟩
  repeat (first | exact Below.refl _ _ | assumption | exact Below.alloc (Below.refl _ _) (Nat.le_refl _) _ | refine Below.setCell ?_ (by first | (simp; done) | (simp; omega) | omega) _ | refine below_drewN ?_ _ | refine Below.alloc ?_ (by first | (simp; done) | (simp; omega) | omega) _ | refine Below.trans ?_ (Below.mono (by assumption) (by first | (simp; done) | (simp; omega) | omega)))

set_option maxHeartbeats 400000 in
theorem awake_any  (w : World) :
    Calls Try.prog 10 #[] w fun e w' => e = .returned (.bool true) ∧ Below w.heap.size w w' := by
  go_enter Try.func10, Try.ntmps10
  go_wp2_with fail
  refine (place_t _ _ _ _ _ (by rfl)).mono ?_
  rintro e w1 ⟨rfl, hb1⟩
  obtain ⟨hc1, hf1⟩ := bcell hb1
  have hz1 := hb1.size
  try simp at hz1
  go_wp2_with fail
  refine (shift_t _ _ _ _ _ _ _ _ (by rfl)).mono ?_
  rintro e w2 ⟨rfl, hb2⟩
  obtain ⟨hc2, hf2⟩ := bcell hb2
  have hz2 := hb2.size
  try simp at hz2
  have z2_0 : w1.heap.size < w2.heap.size := by omega
  go_wp2_with fail
  refine (finer_t _ _ _ _ _ _ (by rfl) (by rfl) (by rfl)).mono ?_
  rintro e w3 ⟨rfl, hb3⟩
  obtain ⟨hc3, hf3⟩ := bcell hb3
  have hz3 := hb3.size
  try simp at hz3
  have z3_0 : w1.heap.size < w3.heap.size := by omega
  have z3_1 : w2.heap.size < w3.heap.size := by omega
  go_wp2_with fail
  refine (order_t _ _ _ _ _ _ _ _ _ (by rfl) (by rfl)).mono ?_
  rintro e w4 ⟨rfl, hb4⟩
  obtain ⟨hc4, hf4⟩ := bcell hb4
  have hz4 := hb4.size
  try simp at hz4
  have z4_0 : w1.heap.size < w4.heap.size := by omega
  have z4_1 : w2.heap.size < w4.heap.size := by omega
  have z4_2 : w3.heap.size < w4.heap.size := by omega
  go_wp2_with fail
  refine (add_any _ _ _ _ _ _ _).mono ?_
  rintro e w5 ⟨rfl, hb5⟩
  obtain ⟨hc5, hf5⟩ := bcell hb5
  have hz5 := hb5.size
  try simp at hz5
  have z5_0 : w1.heap.size < w5.heap.size := by omega
  have z5_1 : w2.heap.size < w5.heap.size := by omega
  have z5_2 : w3.heap.size < w5.heap.size := by omega
  go_wp2
  go_ret
  refine ⟨rfl, ?_⟩
  repeat (first | exact Below.refl _ _ | assumption | exact Below.alloc (Below.refl _ _) (Nat.le_refl _) _ | refine Below.setCell ?_ (by first | (simp; done) | (simp; omega) | omega) _ | refine below_drewN ?_ _ | refine Below.alloc ?_ (by first | (simp; done) | (simp; omega) | omega) _ | refine Below.trans ?_ (Below.mono (by assumption) (by first | (simp; done) | (simp; omega) | omega)))

end Go.Proofs.Ytpjljlnkfimbaaa
