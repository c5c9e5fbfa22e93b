/-
  Places moved: frac.Shift, Minus, Opposite, Finer, for every input.
-/
import Derived.Test.YtpjljlnkfimbaaaFracD
namespace Go.Proofs.Ytpjljlnkfimbaaa
open Go.RowKit
attribute [local irreducible] World.setCell

set_option maxHeartbeats 400000 in
theorem each_shift (m x y z t0 t1 t2 : Int) (A B : Nat) (w : World) (hm : (0 < m ∧ m ≤ 192) ∧ (0 ≤ x ∧ x < m) ∧ (0 ≤ y ∧ y < m) ∧ (0 ≤ z ∧ z < m)) (hA : A < w.heap.size) (hB : B < w.heap.size) (ha0 : w.cell? ⟨A, 0, none⟩ = some (.int .i64 m)) (ha1 : w.cell? ⟨A, 1, none⟩ = some (.int .i64 x)) (ha2 : w.cell? ⟨A, 2, none⟩ = some (.int .i64 y)) (ha3 : w.cell? ⟨A, 3, none⟩ = some (.int .i64 z)) (hb0 : w.cell? ⟨B, 0, none⟩ = some (.int .i64 t0)) (hb1 : w.cell? ⟨B, 1, none⟩ = some (.int .i64 t1)) (hb2 : w.cell? ⟨B, 2, none⟩ = some (.int .i64 t2)) :
    Calls Try.prog 38 #[.func (.func 46) #[] #[.pointer (some ⟨A, 0, none⟩), .pointer (some ⟨B, 0, none⟩)]] w fun e w' => e = .returned (.agg #[.int .i64 (x + t0.tmod 24 * (m / 24)), .int .i64 (y + t1.tmod 24 * (m / 24)), .int .i64 (z + t2.tmod 24 * (m / 24))]) ∧ Below w.heap.size w w' := by
  have en : ∀ args w, (callFunc 46 args).run Try.prog w = .ok (.enter 46 args) w := enters_of Try.func46 (by kernel_rfl) rfl
  refine each_any 46 _ (x + t0.tmod 24 * (m / 24)) (y + t1.tmod 24 * (m / 24)) (z + t2.tmod 24 * (m / 24)) w en (fun w1 hb => ?_) (fun w1 hb => ?_) (fun w1 hb => ?_)
  · exact shiftc_0 m x t0 A B w1 hm.1.1 hm.1.2 (by have := hm.2; omega) (by have := hm.1; have := hm.2; omega) ((hb.cell (p := ⟨A, 0, none⟩) hA).trans ha0) ((hb.cell (p := ⟨A, 1, none⟩) hA).trans ha1) ((hb.cell (p := ⟨B, 0, none⟩) hB).trans hb0)
  · exact shiftc_1 m y t1 A B w1 hm.1.1 hm.1.2 (by have := hm.2; omega) (by have := hm.1; have := hm.2; omega) ((hb.cell (p := ⟨A, 0, none⟩) hA).trans ha0) ((hb.cell (p := ⟨A, 2, none⟩) hA).trans ha2) ((hb.cell (p := ⟨B, 1, none⟩) hB).trans hb1)
  · exact shiftc_2 m z t2 A B w1 hm.1.1 hm.1.2 (by have := hm.2; omega) (by have := hm.1; have := hm.2; omega) ((hb.cell (p := ⟨A, 0, none⟩) hA).trans ha0) ((hb.cell (p := ⟨A, 3, none⟩) hA).trans ha3) ((hb.cell (p := ⟨B, 2, none⟩) hB).trans hb2)

theorem form_hm {m x y z : Int} (h : formB m x y z = true) : (0 < m ∧ m ≤ 192) ∧ (0 ≤ x ∧ x < m) ∧ (0 ≤ y ∧ y < m) ∧ (0 ≤ z ∧ z < m) :=
  ⟨right_pos (formB_right h), (formB_t h).2⟩
theorem shift_mod (m x t : Int) (h : rightB m = true) : (x + t.tmod 24 * (m / 24)) % m = (x + t * (m / 24)) % m := by
  have e := Int.tmod_def t 24
  rcases (rightB_iff m).1 h with rfl | rfl | rfl | rfl <;> omega

set_option maxHeartbeats 400000 in
theorem shift_f (m x y z t0 t1 t2 : Int) (w : World) (h : formB m x y z = false):
    Calls Try.prog 25 #[.agg #[.int .i64 m, .int .i64 x, .int .i64 y, .int .i64 z], .agg #[.int .i64 t0, .int .i64 t1, .int .i64 t2]] w fun e w' => e = .returned (.tuple #[.agg #[.int .i64 0, .int .i64 0, .int .i64 0, .int .i64 0], .int .i64 3]) ∧ Below w.heap.size w w' := by
  have g := form_any m x y z
  rw [h] at g
  have G := Lib.hid g
  clear g
  clear h
  go_enter Try.func25, Try.ntmps25
  go_wp2_with (go_at_call 11; refine (G.out _).mono ?_; rintro e w' ⟨rfl, hb⟩; obtain ⟨hc, hf⟩ := bcell hb; have hz := hb.size; (try simp at hz); try have z0 : w.heap.size < w'.heap.size := (by omega); try have z1 : w.heap.size + 1 < w'.heap.size := (by omega); try have z2 : w.heap.size + 1 + 1 < w'.heap.size := (by omega))
  refine bodyPost_ret (v := .tuple #[.agg #[.int .i64 0, .int .i64 0, .int .i64 0, .int .i64 0], .int .i64 3]) (by simp [results, Try.results25, go_sem, *]) rfl ⟨rfl, ?_⟩
  repeat (first | exact Below.refl _ _ | assumption | exact Below.alloc (Below.refl _ _) (Nat.le_refl _) _ | refine Below.setCell ?_ (by first | (simp; done) | (simp; omega) | omega) _ | refine below_drewN ?_ _ | refine Below.alloc ?_ (by first | (simp; done) | (simp; omega) | omega) _ | refine Below.trans ?_ (Below.mono (by assumption) (by first | (simp; done) | (simp; omega) | omega)))

set_option maxHeartbeats 400000 in
theorem shift_t (m x y z t0 t1 t2 : Int) (w : World) (h : formB m x y z = true):
    Calls Try.prog 25 #[.agg #[.int .i64 m, .int .i64 x, .int .i64 y, .int .i64 z], .agg #[.int .i64 t0, .int .i64 t1, .int .i64 t2]] w fun e w' => e = .returned (.tuple #[.agg #[.int .i64 m, .int .i64 ((x + t0 * (m / 24)) % m), .int .i64 ((y + t1 * (m / 24)) % m), .int .i64 ((z + t2 * (m / 24)) % m)], .int .i64 0]) ∧ Below w.heap.size w w' := by
  have hm := Lib.hid (form_hm h)
  have hr := Lib.hid (formB_right h)
  have g := form_any m x y z
  rw [h] at g
  have G := Lib.hid g
  clear g
  clear h
  go_enter Try.func25, Try.ntmps25
  go_wp2_with (go_at_call 11; refine (G.out _).mono ?_; rintro e w' ⟨rfl, hb⟩; obtain ⟨hc, hf⟩ := bcell hb; have hz := hb.size; (try simp at hz); try have z0 : w.heap.size < w'.heap.size := (by omega); try have z1 : w.heap.size + 1 < w'.heap.size := (by omega); try have z2 : w.heap.size + 1 + 1 < w'.heap.size := (by omega))
  refine region_head 7 (by kernel_rfl) (by kernel_rfl) ?_
  simp only [List.take_succ_cons, List.take_zero, List.drop_succ_cons, List.drop_zero]
  repeat (go_big_quiet_step (first | (go_at_call 38; refine held_of _ (Nat.le_refl _) (each_shift m x y z t0 t1 t2 _ _ _ hm.out ?_ ?_ ?_ ?_ ?_ ?_ ?_ ?_ ?_) <;> first | (go_simp; done) | (simp; omega) | omega) | (go_at_call 13; exact held_of _ (Nat.le_refl _) (place_t _ _ _ _ _ hr.out))))
  refine wpQuiet_nil ?_
  rintro w' ⟨⟨w0, hb⟩, rfl⟩
  obtain ⟨hc, hf⟩ := bcell hb
  have hz := hb.size
  try simp at hz
  try have z0 : w.heap.size < w'.heap.size := (by omega)
  try have z1 : w.heap.size + 1 < w'.heap.size := (by omega)
  try have z2 : w.heap.size + 1 + 1 < w'.heap.size := (by omega)
  go_wp2
  refine bodyPost_ret (v := .tuple #[.agg #[.int .i64 m, .int .i64 ((x + t0.tmod 24 * (m / 24)) % m), .int .i64 ((y + t1.tmod 24 * (m / 24)) % m), .int .i64 ((z + t2.tmod 24 * (m / 24)) % m)], .int .i64 0]) (by simp [results, Try.results25, go_sem, *]) rfl ⟨tup_eq (shift_mod _ _ _ hr.out) (shift_mod _ _ _ hr.out) (shift_mod _ _ _ hr.out), ?_⟩
  repeat (first | exact Below.refl _ _ | assumption | exact Below.alloc (Below.refl _ _) (Nat.le_refl _) _ | refine Below.setCell ?_ (by first | (simp; done) | (simp; omega) | omega) _ | refine below_drewN ?_ _ | refine Below.alloc ?_ (by first | (simp; done) | (simp; omega) | omega) _ | refine Below.trans ?_ (Below.mono (by assumption) (by first | (simp; done) | (simp; omega) | omega)))

set_option maxHeartbeats 400000 in
theorem each_minus (x y z x' y' z' : Int) (A B : Nat) (w : World) (hm : ((0 ≤ x ∧ x ≤ 192) ∧ (0 ≤ y ∧ y ≤ 192) ∧ (0 ≤ z ∧ z ≤ 192)) ∧ ((0 ≤ x' ∧ x' ≤ 192) ∧ (0 ≤ y' ∧ y' ≤ 192) ∧ (0 ≤ z' ∧ z' ≤ 192))) (hA : A < w.heap.size) (hB : B < w.heap.size) (ha1 : w.cell? ⟨A, 1, none⟩ = some (.int .i64 x)) (ha2 : w.cell? ⟨A, 2, none⟩ = some (.int .i64 y)) (ha3 : w.cell? ⟨A, 3, none⟩ = some (.int .i64 z)) (hb1 : w.cell? ⟨B, 1, none⟩ = some (.int .i64 x')) (hb2 : w.cell? ⟨B, 2, none⟩ = some (.int .i64 y')) (hb3 : w.cell? ⟨B, 3, none⟩ = some (.int .i64 z')) :
    Calls Try.prog 38 #[.func (.func 47) #[] #[.pointer (some ⟨A, 0, none⟩), .pointer (some ⟨B, 0, none⟩)]] w fun e w' => e = .returned (.agg #[.int .i64 (x - x'), .int .i64 (y - y'), .int .i64 (z - z')]) ∧ Below w.heap.size w w' := by
  have en : ∀ args w, (callFunc 47 args).run Try.prog w = .ok (.enter 47 args) w := enters_of Try.func47 (by kernel_rfl) rfl
  refine each_any 47 _ (x - x') (y - y') (z - z') w en (fun w1 hb => ?_) (fun w1 hb => ?_) (fun w1 hb => ?_)
  · exact minusc_0 x x' A B w1 (by have := hm.1; omega) (by have := hm.1; omega) (by have := hm.2; omega) (by have := hm.2; omega) ((hb.cell (p := ⟨A, 1, none⟩) hA).trans ha1) ((hb.cell (p := ⟨B, 1, none⟩) hB).trans hb1)
  · exact minusc_1 y y' A B w1 (by have := hm.1; omega) (by have := hm.1; omega) (by have := hm.2; omega) (by have := hm.2; omega) ((hb.cell (p := ⟨A, 2, none⟩) hA).trans ha2) ((hb.cell (p := ⟨B, 2, none⟩) hB).trans hb2)
  · exact minusc_2 z z' A B w1 (by have := hm.1; omega) (by have := hm.1; omega) (by have := hm.2; omega) (by have := hm.2; omega) ((hb.cell (p := ⟨A, 3, none⟩) hA).trans ha3) ((hb.cell (p := ⟨B, 3, none⟩) hB).trans hb3)

theorem form_hm2 {m x y z m' x' y' z' : Int} (h : formB m x y z = true) (h' : formB m' x' y' z' = true) : ((0 ≤ x ∧ x ≤ 192) ∧ (0 ≤ y ∧ y ≤ 192) ∧ (0 ≤ z ∧ z ≤ 192)) ∧ ((0 ≤ x' ∧ x' ≤ 192) ∧ (0 ≤ y' ∧ y' ≤ 192) ∧ (0 ≤ z' ∧ z' ≤ 192)) := by
  have a := form_hm h
  have b := form_hm h'
  omega

set_option maxHeartbeats 400000 in
theorem minus_f1 (m x y z m' x' y' z' : Int) (w : World) (h : formB m x y z = false):
    Calls Try.prog 26 #[.agg #[.int .i64 m, .int .i64 x, .int .i64 y, .int .i64 z], .agg #[.int .i64 m', .int .i64 x', .int .i64 y', .int .i64 z']] w fun e w' => e = .returned (.tuple #[.agg #[.int .i64 0, .int .i64 0, .int .i64 0, .int .i64 0], .int .i64 3]) ∧ Below w.heap.size w w' := by
  go_enter Try.func26, Try.ntmps26
  go_wp2_with (go_at_call 11; refine (form_any _ _ _ _ _).mono ?_; rintro e w' ⟨rfl, hb⟩; obtain ⟨hc, hf⟩ := bcell hb; have hz := hb.size; (try simp at hz); try have z0 : w.heap.size < w'.heap.size := (by omega); try have z1 : w.heap.size + 1 < w'.heap.size := (by omega); try have z2 : w.heap.size + 1 + 1 < w'.heap.size := (by omega))
  refine bodyPost_ret (v := .tuple #[.agg #[.int .i64 0, .int .i64 0, .int .i64 0, .int .i64 0], .int .i64 3]) (by simp [results, Try.results26, go_sem, *]) rfl ⟨rfl, ?_⟩
  repeat (first | exact Below.refl _ _ | assumption | exact Below.alloc (Below.refl _ _) (Nat.le_refl _) _ | refine Below.setCell ?_ (by first | (simp; done) | (simp; omega) | omega) _ | refine below_drewN ?_ _ | refine Below.alloc ?_ (by first | (simp; done) | (simp; omega) | omega) _ | refine Below.trans ?_ (Below.mono (by assumption) (by first | (simp; done) | (simp; omega) | omega)))

set_option maxHeartbeats 400000 in
theorem minus_f2 (m x y z m' x' y' z' : Int) (w : World) (h : formB m x y z = true) (h' : formB m' x' y' z' = false):
    Calls Try.prog 26 #[.agg #[.int .i64 m, .int .i64 x, .int .i64 y, .int .i64 z], .agg #[.int .i64 m', .int .i64 x', .int .i64 y', .int .i64 z']] w fun e w' => e = .returned (.tuple #[.agg #[.int .i64 0, .int .i64 0, .int .i64 0, .int .i64 0], .int .i64 3]) ∧ Below w.heap.size w w' := by
  go_enter Try.func26, Try.ntmps26
  go_wp2_with (go_at_call 11; refine (form_any _ _ _ _ _).mono ?_; rintro e w' ⟨rfl, hb⟩; obtain ⟨hc, hf⟩ := bcell hb; have hz := hb.size; (try simp at hz); try have z0 : w.heap.size < w'.heap.size := (by omega); try have z1 : w.heap.size + 1 < w'.heap.size := (by omega); try have z2 : w.heap.size + 1 + 1 < w'.heap.size := (by omega))
  refine bodyPost_ret (v := .tuple #[.agg #[.int .i64 0, .int .i64 0, .int .i64 0, .int .i64 0], .int .i64 3]) (by simp [results, Try.results26, go_sem, *]) rfl ⟨rfl, ?_⟩
  repeat (first | exact Below.refl _ _ | assumption | exact Below.alloc (Below.refl _ _) (Nat.le_refl _) _ | refine Below.setCell ?_ (by first | (simp; done) | (simp; omega) | omega) _ | refine below_drewN ?_ _ | refine Below.alloc ?_ (by first | (simp; done) | (simp; omega) | omega) _ | refine Below.trans ?_ (Below.mono (by assumption) (by first | (simp; done) | (simp; omega) | omega)))

set_option maxHeartbeats 400000 in
theorem minus_u (m x y z m' x' y' z' : Int) (w : World) (h : formB m x y z = true) (h' : formB m' x' y' z' = true) (hne : m ≠ m'):
    Calls Try.prog 26 #[.agg #[.int .i64 m, .int .i64 x, .int .i64 y, .int .i64 z], .agg #[.int .i64 m', .int .i64 x', .int .i64 y', .int .i64 z']] w fun e w' => e = .returned (.tuple #[.agg #[.int .i64 0, .int .i64 0, .int .i64 0, .int .i64 0], .int .i64 6]) ∧ Below w.heap.size w w' := by
  have hn : (m == m') = false := by simpa using hne
  clear hne
  go_enter Try.func26, Try.ntmps26
  go_wp2_with (go_at_call 11; refine (form_any _ _ _ _ _).mono ?_; rintro e w' ⟨rfl, hb⟩; obtain ⟨hc, hf⟩ := bcell hb; have hz := hb.size; (try simp at hz); try have z0 : w.heap.size < w'.heap.size := (by omega); try have z1 : w.heap.size + 1 < w'.heap.size := (by omega); try have z2 : w.heap.size + 1 + 1 < w'.heap.size := (by omega))
  refine bodyPost_ret (v := .tuple #[.agg #[.int .i64 0, .int .i64 0, .int .i64 0, .int .i64 0], .int .i64 6]) (by simp [results, Try.results26, go_sem, *]) rfl ⟨rfl, ?_⟩
  repeat (first | exact Below.refl _ _ | assumption | exact Below.alloc (Below.refl _ _) (Nat.le_refl _) _ | refine Below.setCell ?_ (by first | (simp; done) | (simp; omega) | omega) _ | refine below_drewN ?_ _ | refine Below.alloc ?_ (by first | (simp; done) | (simp; omega) | omega) _ | refine Below.trans ?_ (Below.mono (by assumption) (by first | (simp; done) | (simp; omega) | omega)))

set_option maxHeartbeats 400000 in
theorem minus_t (m x y z x' y' z' : Int) (w : World) (h : formB m x y z = true) (h' : formB m x' y' z' = true):
    Calls Try.prog 26 #[.agg #[.int .i64 m, .int .i64 x, .int .i64 y, .int .i64 z], .agg #[.int .i64 m, .int .i64 x', .int .i64 y', .int .i64 z']] w fun e w' => e = .returned (.tuple #[.agg #[.int .i64 m, .int .i64 ((x - x') % m), .int .i64 ((y - y') % m), .int .i64 ((z - z') % m)], .int .i64 0]) ∧ Below w.heap.size w w' := by
  have hm := Lib.hid (form_hm2 h h')
  have hr := Lib.hid (formB_right h)
  go_enter Try.func26, Try.ntmps26
  go_wp2_with (go_at_call 11; refine (form_any _ _ _ _ _).mono ?_; rintro e w' ⟨rfl, hb⟩; obtain ⟨hc, hf⟩ := bcell hb; have hz := hb.size; (try simp at hz); try have z0 : w.heap.size < w'.heap.size := (by omega); try have z1 : w.heap.size + 1 < w'.heap.size := (by omega); try have z2 : w.heap.size + 1 + 1 < w'.heap.size := (by omega))
  refine region_head 7 (by kernel_rfl) (by kernel_rfl) ?_
  simp only [List.take_succ_cons, List.take_zero, List.drop_succ_cons, List.drop_zero]
  repeat (go_big_quiet_step (first | (go_at_call 38; refine held_of _ (Nat.le_refl _) (each_minus x y z x' y' z' _ _ _ hm.out ?_ ?_ ?_ ?_ ?_ ?_ ?_ ?_) <;> first | (go_simp; done) | (simp; omega) | omega) | (go_at_call 13; exact held_of _ (Nat.le_refl _) (place_t _ _ _ _ _ hr.out))))
  refine wpQuiet_nil ?_
  rintro w' ⟨⟨w0, hb⟩, rfl⟩
  obtain ⟨hc, hf⟩ := bcell hb
  have hz := hb.size
  try simp at hz
  try have z0 : w.heap.size < w'.heap.size := (by omega)
  try have z1 : w.heap.size + 1 < w'.heap.size := (by omega)
  try have z2 : w.heap.size + 1 + 1 < w'.heap.size := (by omega)
  go_wp2
  refine bodyPost_ret (v := .tuple #[.agg #[.int .i64 m, .int .i64 ((x - x') % m), .int .i64 ((y - y') % m), .int .i64 ((z - z') % m)], .int .i64 0]) (by simp [results, Try.results26, go_sem, *]) rfl ⟨rfl, ?_⟩
  repeat (first | exact Below.refl _ _ | assumption | exact Below.alloc (Below.refl _ _) (Nat.le_refl _) _ | refine Below.setCell ?_ (by first | (simp; done) | (simp; omega) | omega) _ | refine below_drewN ?_ _ | refine Below.alloc ?_ (by first | (simp; done) | (simp; omega) | omega) _ | refine Below.trans ?_ (Below.mono (by assumption) (by first | (simp; done) | (simp; omega) | omega)))

end Go.Proofs.Ytpjljlnkfimbaaa
