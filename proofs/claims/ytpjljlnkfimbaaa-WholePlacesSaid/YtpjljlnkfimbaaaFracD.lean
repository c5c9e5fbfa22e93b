/-
  Places moved: frac.Place, Shift, Minus, Opposite, Finer and the reference's, for every input.
-/
import Derived.Test.YtpjljlnkfimbaaaFracC
namespace Go.Proofs.Ytpjljlnkfimbaaa
open Go.RowKit
attribute [local irreducible] World.setCell

theorem ediv_bd (a b : Int) (h0 : 0 ≤ a) (h1 : a ≤ 192) (h : 0 < b) : 0 ≤ a / b ∧ a / b ≤ 192 := ⟨Int.ediv_nonneg h0 (by omega), Int.le_trans (Int.ediv_le_self b h0) h1⟩
theorem mul_bd192 (x k : Int) (h0 : 0 ≤ x) (h1 : x ≤ 192) (h2 : 0 ≤ k) (h3 : k ≤ 192) : 0 ≤ x * k ∧ x * k ≤ 36864 :=
  ⟨Int.mul_nonneg h0 h2, Int.le_trans (Int.mul_le_mul h1 h3 h2 (by omega)) (by omega)⟩

set_option maxHeartbeats 400000 in
theorem placec_0 (m a0 : Int) (A B : Nat) (w : World) (h : 0 < m) (h2 : m ≤ 192) (ha0 : w.cell? ⟨A, 0, none⟩ = some (.int .i64 a0)) (hb0 : w.cell? ⟨B, 0, none⟩ = some (.int .i64 m)):
    Calls Try.prog 39 #[.int .i64 0, .pointer (some ⟨A, 0, none⟩), .pointer (some ⟨B, 0, none⟩)] w fun e w' => e = .returned (.int .i64 (a0 % m)) ∧ ∃ n, w' = w.drewN n := by
  go_enter Try.func39, Try.ntmps39
  go_wp2
  go_quiet ((go_at_call 40; exact mod_q _ _ _ _ _ h h2 rfl))
  go_wp2
  go_ret
  exact ⟨rfl, _, rfl⟩

set_option maxHeartbeats 400000 in
theorem placec_1 (m a1 : Int) (A B : Nat) (w : World) (h : 0 < m) (h2 : m ≤ 192) (ha1 : w.cell? ⟨A, 1, none⟩ = some (.int .i64 a1)) (hb0 : w.cell? ⟨B, 0, none⟩ = some (.int .i64 m)):
    Calls Try.prog 39 #[.int .i64 1, .pointer (some ⟨A, 0, none⟩), .pointer (some ⟨B, 0, none⟩)] w fun e w' => e = .returned (.int .i64 (a1 % m)) ∧ ∃ n, w' = w.drewN n := by
  go_enter Try.func39, Try.ntmps39
  go_wp2
  go_quiet ((go_at_call 40; exact mod_q _ _ _ _ _ h h2 rfl))
  go_wp2
  go_ret
  exact ⟨rfl, _, rfl⟩

set_option maxHeartbeats 400000 in
theorem placec_2 (m a2 : Int) (A B : Nat) (w : World) (h : 0 < m) (h2 : m ≤ 192) (ha2 : w.cell? ⟨A, 2, none⟩ = some (.int .i64 a2)) (hb0 : w.cell? ⟨B, 0, none⟩ = some (.int .i64 m)):
    Calls Try.prog 39 #[.int .i64 2, .pointer (some ⟨A, 0, none⟩), .pointer (some ⟨B, 0, none⟩)] w fun e w' => e = .returned (.int .i64 (a2 % m)) ∧ ∃ n, w' = w.drewN n := by
  go_enter Try.func39, Try.ntmps39
  go_wp2
  go_quiet ((go_at_call 40; exact mod_q _ _ _ _ _ h h2 rfl))
  go_wp2
  go_ret
  exact ⟨rfl, _, rfl⟩

set_option maxHeartbeats 400000 in
theorem finerc_0 (m x k : Int) (A B : Nat) (w : World) (h : 0 < m) (h2 : m ≤ 192) (g : 0 < k) (g2 : k ≤ 192) (u : 0 ≤ x) (u2 : x ≤ 192) (ha0 : w.cell? ⟨A, 0, none⟩ = some (.int .i64 m)) (ha1 : w.cell? ⟨A, 1, none⟩ = some (.int .i64 x)) (hb0 : w.cell? ⟨B, 0, none⟩ = some (.int .i64 k)):
    Calls Try.prog 41 #[.int .i64 0, .pointer (some ⟨A, 0, none⟩), .pointer (some ⟨B, 0, none⟩)] w fun e w' => e = .returned (.int .i64 (x * (k / m))) ∧ ∃ n, w' = w.drewN n := by
  have b1 := ediv_bd k m (by omega) g2 h
  have b2 := mul_bd192 x (k / m) u u2 b1.1 b1.2
  obtain ⟨b3, b4⟩ := b1
  obtain ⟨b5, b6⟩ := b2
  go_enter Try.func41, Try.ntmps41
  go_wp2
  go_quiet (fail)
  go_wp2
  go_ret
  exact ⟨rfl, _, rfl⟩

set_option maxHeartbeats 400000 in
theorem finerc_1 (m y k : Int) (A B : Nat) (w : World) (h : 0 < m) (h2 : m ≤ 192) (g : 0 < k) (g2 : k ≤ 192) (u : 0 ≤ y) (u2 : y ≤ 192) (ha0 : w.cell? ⟨A, 0, none⟩ = some (.int .i64 m)) (ha2 : w.cell? ⟨A, 2, none⟩ = some (.int .i64 y)) (hb0 : w.cell? ⟨B, 0, none⟩ = some (.int .i64 k)):
    Calls Try.prog 41 #[.int .i64 1, .pointer (some ⟨A, 0, none⟩), .pointer (some ⟨B, 0, none⟩)] w fun e w' => e = .returned (.int .i64 (y * (k / m))) ∧ ∃ n, w' = w.drewN n := by
  have b1 := ediv_bd k m (by omega) g2 h
  have b2 := mul_bd192 y (k / m) u u2 b1.1 b1.2
  obtain ⟨b3, b4⟩ := b1
  obtain ⟨b5, b6⟩ := b2
  go_enter Try.func41, Try.ntmps41
  go_wp2
  go_quiet (fail)
  go_wp2
  go_ret
  exact ⟨rfl, _, rfl⟩

set_option maxHeartbeats 400000 in
theorem finerc_2 (m z k : Int) (A B : Nat) (w : World) (h : 0 < m) (h2 : m ≤ 192) (g : 0 < k) (g2 : k ≤ 192) (u : 0 ≤ z) (u2 : z ≤ 192) (ha0 : w.cell? ⟨A, 0, none⟩ = some (.int .i64 m)) (ha3 : w.cell? ⟨A, 3, none⟩ = some (.int .i64 z)) (hb0 : w.cell? ⟨B, 0, none⟩ = some (.int .i64 k)):
    Calls Try.prog 41 #[.int .i64 2, .pointer (some ⟨A, 0, none⟩), .pointer (some ⟨B, 0, none⟩)] w fun e w' => e = .returned (.int .i64 (z * (k / m))) ∧ ∃ n, w' = w.drewN n := by
  have b1 := ediv_bd k m (by omega) g2 h
  have b2 := mul_bd192 z (k / m) u u2 b1.1 b1.2
  obtain ⟨b3, b4⟩ := b1
  obtain ⟨b5, b6⟩ := b2
  go_enter Try.func41, Try.ntmps41
  go_wp2
  go_quiet (fail)
  go_wp2
  go_ret
  exact ⟨rfl, _, rfl⟩

theorem mul_bd200 (a k : Int) (h1 : -24 < a) (h2 : a < 24) (h3 : 0 ≤ k) (h4 : k ≤ 192) : -9000 < a * k ∧ a * k < 9000 := by
  have h : (a * k).natAbs < 9000 := by
    rw [Int.natAbs_mul]
    have : a.natAbs * k.natAbs ≤ 23 * 192 := Nat.mul_le_mul (by omega) (by omega)
    omega
  omega

set_option maxHeartbeats 400000 in
theorem shiftc_0 (m x t0 : Int) (A B : Nat) (w : World) (h : 0 < m) (h2 : m ≤ 192) (u : 0 ≤ x) (u2 : x ≤ 192) (ha0 : w.cell? ⟨A, 0, none⟩ = some (.int .i64 m)) (ha1 : w.cell? ⟨A, 1, none⟩ = some (.int .i64 x)) (hb0 : w.cell? ⟨B, 0, none⟩ = some (.int .i64 t0)):
    Calls Try.prog 46 #[.int .i64 0, .pointer (some ⟨A, 0, none⟩), .pointer (some ⟨B, 0, none⟩)] w fun e w' => e = .returned (.int .i64 (x + t0.tmod 24 * (m / 24))) ∧ ∃ n, w' = w.drewN n := by
  obtain ⟨b3, b4⟩ := ediv_bd m 24 (by omega) h2 (by omega)
  obtain ⟨b7, b8⟩ := tmod_bounds t0 24 (by omega)
  obtain ⟨b5, b6⟩ := mul_bd200 (t0.tmod 24) (m / 24) b7 b8 b3 b4
  go_enter Try.func46, Try.ntmps46
  go_wp2
  go_quiet (fail)
  go_wp2
  go_ret
  exact ⟨rfl, _, rfl⟩

set_option maxHeartbeats 400000 in
theorem shiftc_1 (m y t1 : Int) (A B : Nat) (w : World) (h : 0 < m) (h2 : m ≤ 192) (u : 0 ≤ y) (u2 : y ≤ 192) (ha0 : w.cell? ⟨A, 0, none⟩ = some (.int .i64 m)) (ha2 : w.cell? ⟨A, 2, none⟩ = some (.int .i64 y)) (hb1 : w.cell? ⟨B, 1, none⟩ = some (.int .i64 t1)):
    Calls Try.prog 46 #[.int .i64 1, .pointer (some ⟨A, 0, none⟩), .pointer (some ⟨B, 0, none⟩)] w fun e w' => e = .returned (.int .i64 (y + t1.tmod 24 * (m / 24))) ∧ ∃ n, w' = w.drewN n := by
  obtain ⟨b3, b4⟩ := ediv_bd m 24 (by omega) h2 (by omega)
  obtain ⟨b7, b8⟩ := tmod_bounds t1 24 (by omega)
  obtain ⟨b5, b6⟩ := mul_bd200 (t1.tmod 24) (m / 24) b7 b8 b3 b4
  go_enter Try.func46, Try.ntmps46
  go_wp2
  go_quiet (fail)
  go_wp2
  go_ret
  exact ⟨rfl, _, rfl⟩

set_option maxHeartbeats 400000 in
theorem shiftc_2 (m z t2 : Int) (A B : Nat) (w : World) (h : 0 < m) (h2 : m ≤ 192) (u : 0 ≤ z) (u2 : z ≤ 192) (ha0 : w.cell? ⟨A, 0, none⟩ = some (.int .i64 m)) (ha3 : w.cell? ⟨A, 3, none⟩ = some (.int .i64 z)) (hb2 : w.cell? ⟨B, 2, none⟩ = some (.int .i64 t2)):
    Calls Try.prog 46 #[.int .i64 2, .pointer (some ⟨A, 0, none⟩), .pointer (some ⟨B, 0, none⟩)] w fun e w' => e = .returned (.int .i64 (z + t2.tmod 24 * (m / 24))) ∧ ∃ n, w' = w.drewN n := by
  obtain ⟨b3, b4⟩ := ediv_bd m 24 (by omega) h2 (by omega)
  obtain ⟨b7, b8⟩ := tmod_bounds t2 24 (by omega)
  obtain ⟨b5, b6⟩ := mul_bd200 (t2.tmod 24) (m / 24) b7 b8 b3 b4
  go_enter Try.func46, Try.ntmps46
  go_wp2
  go_quiet (fail)
  go_wp2
  go_ret
  exact ⟨rfl, _, rfl⟩

set_option maxHeartbeats 400000 in
theorem minusc_0 (x x' : Int) (A B : Nat) (w : World) (u : 0 ≤ x) (u2 : x ≤ 192) (v : 0 ≤ x') (v2 : x' ≤ 192) (ha1 : w.cell? ⟨A, 1, none⟩ = some (.int .i64 x)) (hb1 : w.cell? ⟨B, 1, none⟩ = some (.int .i64 x')):
    Calls Try.prog 47 #[.int .i64 0, .pointer (some ⟨A, 0, none⟩), .pointer (some ⟨B, 0, none⟩)] w fun e w' => e = .returned (.int .i64 (x - x')) ∧ ∃ n, w' = w.drewN n := by
  go_enter Try.func47, Try.ntmps47
  go_wp2
  go_quiet (fail)
  go_wp2
  go_ret
  exact ⟨rfl, _, rfl⟩

set_option maxHeartbeats 400000 in
theorem minusc_1 (y y' : Int) (A B : Nat) (w : World) (u : 0 ≤ y) (u2 : y ≤ 192) (v : 0 ≤ y') (v2 : y' ≤ 192) (ha2 : w.cell? ⟨A, 2, none⟩ = some (.int .i64 y)) (hb2 : w.cell? ⟨B, 2, none⟩ = some (.int .i64 y')):
    Calls Try.prog 47 #[.int .i64 1, .pointer (some ⟨A, 0, none⟩), .pointer (some ⟨B, 0, none⟩)] w fun e w' => e = .returned (.int .i64 (y - y')) ∧ ∃ n, w' = w.drewN n := by
  go_enter Try.func47, Try.ntmps47
  go_wp2
  go_quiet (fail)
  go_wp2
  go_ret
  exact ⟨rfl, _, rfl⟩

set_option maxHeartbeats 400000 in
theorem minusc_2 (z z' : Int) (A B : Nat) (w : World) (u : 0 ≤ z) (u2 : z ≤ 192) (v : 0 ≤ z') (v2 : z' ≤ 192) (ha3 : w.cell? ⟨A, 3, none⟩ = some (.int .i64 z)) (hb3 : w.cell? ⟨B, 3, none⟩ = some (.int .i64 z')):
    Calls Try.prog 47 #[.int .i64 2, .pointer (some ⟨A, 0, none⟩), .pointer (some ⟨B, 0, none⟩)] w fun e w' => e = .returned (.int .i64 (z - z')) ∧ ∃ n, w' = w.drewN n := by
  go_enter Try.func47, Try.ntmps47
  go_wp2
  go_quiet (fail)
  go_wp2
  go_ret
  exact ⟨rfl, _, rfl⟩

theorem tup_eq {m a b c a' b' c' e : Int} (h1 : a = a') (h2 : b = b') (h3 : c = c') : Ending.returned (.tuple #[.agg #[.int .i64 m, .int .i64 a, .int .i64 b, .int .i64 c], .int .i64 e]) = .returned (.tuple #[.agg #[.int .i64 m, .int .i64 a', .int .i64 b', .int .i64 c'], .int .i64 e]) := by rw [h1, h2, h3]

set_option maxHeartbeats 400000 in
theorem place_f (m a0 a1 a2 : Int) (w : World) (h : rightB m = false):
    Calls Try.prog 13 #[.int .i64 m, .agg #[.int .i64 a0, .int .i64 a1, .int .i64 a2]] w fun e w' => e = .returned (.tuple #[.agg #[.int .i64 0, .int .i64 0, .int .i64 0, .int .i64 0], .int .i64 1]) ∧ Below w.heap.size w w' := by
  have g := right_any m
  rw [h] at g
  have G := Lib.hid g
  clear g
  clear h
  go_enter Try.func13, Try.ntmps13
  go_wp2_with (go_at_call 35; refine (G.out _).mono ?_; rintro e w' ⟨rfl, rfl⟩)
  refine bodyPost_ret (v := .tuple #[.agg #[.int .i64 0, .int .i64 0, .int .i64 0, .int .i64 0], .int .i64 1]) (by simp [results, Try.results13, go_sem, *]) rfl ⟨rfl, ?_⟩
  repeat (first | exact Below.refl _ _ | assumption | exact Below.alloc (Below.refl _ _) (Nat.le_refl _) _ | refine Below.setCell ?_ (by first | (simp; done) | (simp; omega) | omega) _ | refine below_drewN ?_ _ | refine Below.alloc ?_ (by first | (simp; done) | (simp; omega) | omega) _ | refine Below.trans ?_ (Below.mono (by assumption) (by first | (simp; done) | (simp; omega) | omega)))

set_option maxHeartbeats 400000 in
theorem each_place (m a0 a1 a2 : Int) (A B : Nat) (w : World) (hm : 0 < m ∧ m ≤ 192) (hA : A < w.heap.size) (hB : B < w.heap.size) (ha0 : w.cell? ⟨A, 0, none⟩ = some (.int .i64 a0)) (ha1 : w.cell? ⟨A, 1, none⟩ = some (.int .i64 a1)) (ha2 : w.cell? ⟨A, 2, none⟩ = some (.int .i64 a2)) (hb0 : w.cell? ⟨B, 0, none⟩ = some (.int .i64 m)) :
    Calls Try.prog 38 #[.func (.func 39) #[] #[.pointer (some ⟨A, 0, none⟩), .pointer (some ⟨B, 0, none⟩)]] w fun e w' => e = .returned (.agg #[.int .i64 (a0 % m), .int .i64 (a1 % m), .int .i64 (a2 % m)]) ∧ Below w.heap.size w w' := by
  have en : ∀ args w, (callFunc 39 args).run Try.prog w = .ok (.enter 39 args) w := enters_of Try.func39 (by kernel_rfl) rfl
  refine each_any 39 _ (a0 % m) (a1 % m) (a2 % m) w en (fun w1 hb => ?_) (fun w1 hb => ?_) (fun w1 hb => ?_)
  · exact placec_0 m a0 A B w1 hm.1 hm.2 ((hb.cell (p := ⟨A, 0, none⟩) hA).trans ha0) ((hb.cell (p := ⟨B, 0, none⟩) hB).trans hb0)
  · exact placec_1 m a1 A B w1 hm.1 hm.2 ((hb.cell (p := ⟨A, 1, none⟩) hA).trans ha1) ((hb.cell (p := ⟨B, 0, none⟩) hB).trans hb0)
  · exact placec_2 m a2 A B w1 hm.1 hm.2 ((hb.cell (p := ⟨A, 2, none⟩) hA).trans ha2) ((hb.cell (p := ⟨B, 0, none⟩) hB).trans hb0)

set_option maxHeartbeats 400000 in
theorem place_t (m a0 a1 a2 : Int) (w : World) (h : rightB m = true):
    Calls Try.prog 13 #[.int .i64 m, .agg #[.int .i64 a0, .int .i64 a1, .int .i64 a2]] w fun e w' => e = .returned (.tuple #[.agg #[.int .i64 m, .int .i64 (a0 % m), .int .i64 (a1 % m), .int .i64 (a2 % m)], .int .i64 0]) ∧ Below w.heap.size w w' := by
  have hm := Lib.hid (right_pos h)
  have g := right_any m
  rw [h] at g
  have G := Lib.hid g
  clear g
  clear h
  go_enter Try.func13, Try.ntmps13
  go_wp2_with (go_at_call 35; refine (G.out _).mono ?_; rintro e w' ⟨rfl, rfl⟩)
  refine region_head 4 (by kernel_rfl) (by kernel_rfl) ?_
  simp only [List.take_succ_cons, List.take_zero, List.drop_succ_cons, List.drop_zero]
  repeat (go_big_quiet_step (first | (go_at_call 38; refine held_of _ (Nat.le_refl _) (each_place m a0 a1 a2 _ _ _ hm.out ?_ ?_ ?_ ?_ ?_ ?_) <;> first | (go_simp; done) | (simp; omega) | omega)))
  refine wpQuiet_nil ?_
  rintro w' ⟨⟨w0, hb⟩, rfl⟩
  obtain ⟨hc, hf⟩ := bcell hb
  have hz := hb.size
  try simp at hz
  try have z0 : w.heap.size < w'.heap.size := (by omega)
  try have z1 : w.heap.size + 1 < w'.heap.size := (by omega)
  try have z2 : w.heap.size + 1 + 1 < w'.heap.size := (by omega)
  go_wp2
  refine bodyPost_ret (v := .tuple #[.agg #[.int .i64 m, .int .i64 (a0 % m), .int .i64 (a1 % m), .int .i64 (a2 % m)], .int .i64 0]) (by simp [results, Try.results13, go_sem, *]) rfl ⟨rfl, ?_⟩
  repeat (first | exact Below.refl _ _ | assumption | exact Below.alloc (Below.refl _ _) (Nat.le_refl _) _ | refine Below.setCell ?_ (by first | (simp; done) | (simp; omega) | omega) _ | refine below_drewN ?_ _ | refine Below.alloc ?_ (by first | (simp; done) | (simp; omega) | omega) _ | refine Below.trans ?_ (Below.mono (by assumption) (by first | (simp; done) | (simp; omega) | omega)))

end Go.Proofs.Ytpjljlnkfimbaaa
