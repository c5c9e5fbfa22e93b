/-
  The sums of translations: what frac.Add, Sub, Neg, Times and the reference's answers are, for every input.
-/
import Derived.Test.YtpjljlnkfimbaaaBase
namespace Go.Proofs.Ytpjljlnkfimbaaa
open Go.RowKit

theorem tmod_bounds (n m : Int) (h : 0 < m) : -m < n.tmod m ∧ n.tmod m < m := by
  have h3 := Int.tmod_lt_of_pos n h
  have h5 := Int.emod_nonneg n (by omega : m ≠ 0)
  have h6 := Int.emod_lt_of_pos n h
  refine ⟨?_, h3⟩
  rw [Int.tmod_eq_emod]; split <;> omega
theorem tmod_emod (n m : Int) (h : 0 < m) : n.tmod m % m = n % m := by
  rw [Int.tmod_eq_emod]; split
  · simp
  · have : ((m.natAbs : Nat) : Int) = m := by omega
    rw [this]; exact (Int.sub_emod_right _ _).trans (Int.emod_emod_of_dvd n (Int.dvd_refl m))
theorem mod_eq (n m : Int) (h : 0 < m) (h2 : m ≤ 192) : (wrap64 (n.tmod m + m)).tmod m = n % m := by
  have h3 := tmod_bounds n m h
  rw [wrap_id _ (by omega) (by omega), Int.tmod_eq_emod_of_nonneg (by omega), Int.add_emod_right, tmod_emod n m h]

set_option maxHeartbeats 400000 in
theorem mod_any (n m : Int) (w : World) (h : 0 < m) (h2 : m ≤ 192) :
    Calls Try.prog 40 #[.int .i64 n, .int .i64 m] w fun e w' => e = .returned (.int .i64 (n % m)) ∧ w = w' := by
  go_enter Try.func40, Try.ntmps40
  go_wp2
  go_ret
  exact ⟨ret_int (mod_eq n m h h2), rfl⟩
theorem mod_q (n m v : Int) (w : World) (k : Nat) (h : 0 < m) (h2 : m ≤ 192) (hv : n % m = v) :
    Calls Try.prog 40 #[.int .i64 n, .int .i64 m] (w.drewN k) fun e w' => e = .returned (.int .i64 v) ∧ ∃ j, w' = w.drewN j :=
  Calls.quiet_of_same ((mod_any n m _ h h2).mono fun _ _ ⟨h1, h3⟩ => ⟨by rw [h1, hv], h3.symm⟩)

set_option maxHeartbeats 400000 in
theorem rmod_any (n m : Int) (w : World) (h : 0 < m) (h2 : m ≤ 192) :
    Calls Try.prog 45 #[.int .i64 n, .int .i64 m] w fun e w' => e = .returned (.int .i64 (n % m)) ∧ w = w' := by
  have hb := tmod_bounds n m h
  have he := tmod_emod n m h
  have hm : m ≠ 0 := by omega
  by_cases hn : n.tmod m < 0
  · have e2 : n.tmod m + m = n % m := by rw [← he]; rw [← Int.add_emod_right]; exact (Int.emod_eq_of_lt (by omega) (by omega)).symm
    have H := Lib.hid e2
    clear he e2
    go_enter Try.func45, Try.ntmps45
    go_wp2
    go_ret
    exact ⟨ret_int H.out, rfl⟩
  · have e2 : n.tmod m = n % m := by rw [← he]; exact (Int.emod_eq_of_lt (by omega) (by omega)).symm
    have H := Lib.hid e2
    clear he e2
    go_enter Try.func45, Try.ntmps45
    go_wp2
    go_ret
    exact ⟨ret_int H.out, rfl⟩
theorem rmod_q (n m v : Int) (w : World) (k : Nat) (h : 0 < m) (h2 : m ≤ 192) (hv : n % m = v) :
    Calls Try.prog 45 #[.int .i64 n, .int .i64 m] (w.drewN k) fun e w' => e = .returned (.int .i64 v) ∧ ∃ j, w' = w.drewN j :=
  Calls.quiet_of_same ((rmod_any n m _ h h2).mono fun _ _ ⟨h1, h3⟩ => ⟨by rw [h1, hv], h3.symm⟩)

theorem vec_eq {a b c a' b' c' : Int} (h1 : a = a') (h2 : b = b') (h3 : c = c') : Ending.returned (.agg #[.int .i64 a, .int .i64 b, .int .i64 c]) = .returned (.agg #[.int .i64 a', .int .i64 b', .int .i64 c']) := by rw [h1, h2, h3]
theorem below_of_quiet {w w' : World} (h : ∃ n, w' = w.drewN n) : Below w.heap.size w w' := by
  obtain ⟨n, rfl⟩ := h
  exact below_drewN (Below.refl _ _) n

set_option maxHeartbeats 400000 in
theorem each_any (g : Nat) (caps : Array Value) (v0 v1 v2 : Int) (w : World)
   (he : ∀ args w, (callFunc g args).run Try.prog w = .ok (.enter g args) w)
   (h0 : ∀ w', Below w.heap.size w w' → Calls Try.prog g (#[.int .i64 0] ++ caps) w' (fun e w'' => e = .returned (.int .i64 v0) ∧ ∃ n, w'' = w'.drewN n))
   (h1 : ∀ w', Below w.heap.size w w' → Calls Try.prog g (#[.int .i64 1] ++ caps) w' (fun e w'' => e = .returned (.int .i64 v1) ∧ ∃ n, w'' = w'.drewN n))
   (h2 : ∀ w', Below w.heap.size w w' → Calls Try.prog g (#[.int .i64 2] ++ caps) w' (fun e w'' => e = .returned (.int .i64 v2) ∧ ∃ n, w'' = w'.drewN n)) :
    Calls Try.prog 38 #[.func (.func g) #[] caps] w fun e w' => e = .returned (.agg #[.int .i64 v0, .int .i64 v1, .int .i64 v2]) ∧ Below w.heap.size w w' := by
  have H0 := Lib.hid h0
  have H1 := Lib.hid h1
  have H2 := Lib.hid h2
  clear h0 h1 h2
  go_enter Try.func38, Try.ntmps38
  go_wp2
  refine (H0.out _ ((Below.refl _ _).alloc (Nat.le_refl _) _)).mono ?_
  rintro e w1 ⟨rfl, n1, rfl⟩
  go_wp2
  refine (H1.out _ (below_drewN ((Below.refl _ _).alloc (Nat.le_refl _) _) _)).mono ?_
  rintro e w2 ⟨rfl, n2, rfl⟩
  go_wp2
  refine (H2.out _ (by go_simp; exact below_drewN ((Below.refl _ _).alloc (Nat.le_refl _) _) _)).mono ?_
  rintro e w3 ⟨rfl, n3, rfl⟩
  clear H0 H1 H2
  go_wp2
  refine bodyPost_ret (v := .agg #[.int .i64 v0, .int .i64 v1, .int .i64 v2]) (by simp [results, Try.results38, go_sem]) rfl ⟨rfl, ?_⟩
  go_simp
  exact (((below_drewN ((Below.refl _ _).alloc (Nat.le_refl _) _) _).setCell (by simp) _).setCell (by simp) _).setCell (by simp) _

theorem add_mod (a b : Int) : (wrap64 (a.tmod 24 + b.tmod 24)) % 24 = (a + b) % 24 := by
  have := tmod_bounds a 24 (by omega); have := tmod_bounds b 24 (by omega)
  rw [wrap_id _ (by omega) (by omega), Int.add_emod, tmod_emod a 24 (by omega), tmod_emod b 24 (by omega), ← Int.add_emod]
theorem add_mod' (a b : Int) : (a.tmod 24 + b.tmod 24) % 24 = (a + b) % 24 := by
  rw [Int.add_emod, tmod_emod a 24 (by omega), tmod_emod b 24 (by omega), ← Int.add_emod]
theorem neg_mod (a : Int) : (wrap64 (-(a.tmod 24))) % 24 = (-a) % 24 := by
  have := tmod_bounds a 24 (by omega)
  have h := tmod_emod a 24 (by omega)
  rw [wrap_id _ (by omega) (by omega)]; omega
theorem neg_mod' (a : Int) : (-(a.tmod 24)) % 24 = (-a) % 24 := by
  have h := tmod_emod a 24 (by omega)
  omega
theorem mul_bd (x y : Int) (h1 : -24 < x) (h2 : x < 24) (h3 : -24 < y) (h4 : y < 24) : -576 < x * y ∧ x * y < 576 := by
  have h : (x * y).natAbs < 576 := by
    rw [Int.natAbs_mul]
    have : x.natAbs * y.natAbs ≤ 23 * 23 := Nat.mul_le_mul (by omega) (by omega)
    omega
  omega
theorem mul_mod (n a : Int) : (wrap64 (n.tmod 24 * a.tmod 24)) % 24 = (n * a) % 24 := by
  have h1 := tmod_bounds a 24 (by omega); have h2 := tmod_bounds n 24 (by omega)
  have h3 := mul_bd _ _ h2.1 h2.2 h1.1 h1.2
  rw [wrap_id _ (by omega) (by omega), Int.mul_emod, tmod_emod a 24 (by omega), tmod_emod n 24 (by omega), ← Int.mul_emod]

set_option maxHeartbeats 400000 in
theorem addc_0 (a0 b0 : Int) (A B : Nat) (w : World) (ha : w.cell? ⟨A, 0, none⟩ = some (.int .i64 a0)) (hb : w.cell? ⟨B, 0, none⟩ = some (.int .i64 b0)) :
    Calls Try.prog 42 #[.int .i64 0, .pointer (some ⟨A, 0, none⟩), .pointer (some ⟨B, 0, none⟩)] w fun e w' => e = .returned (.int .i64 ((a0 + b0) % 24)) ∧ ∃ n, w' = w.drewN n := by
  go_enter Try.func42, Try.ntmps42
  go_wp2
  go_quiet ((go_at_call 40; exact mod_q _ _ ((a0 + b0) % 24) _ _ (by omega) (by omega) (by first | exact add_mod a0 b0 | exact add_mod' a0 b0)))
  go_wp2
  go_ret
  exact ⟨rfl, _, rfl⟩

set_option maxHeartbeats 400000 in
theorem addc_1 (a1 b1 : Int) (A B : Nat) (w : World) (ha : w.cell? ⟨A, 1, none⟩ = some (.int .i64 a1)) (hb : w.cell? ⟨B, 1, none⟩ = some (.int .i64 b1)) :
    Calls Try.prog 42 #[.int .i64 1, .pointer (some ⟨A, 0, none⟩), .pointer (some ⟨B, 0, none⟩)] w fun e w' => e = .returned (.int .i64 ((a1 + b1) % 24)) ∧ ∃ n, w' = w.drewN n := by
  go_enter Try.func42, Try.ntmps42
  go_wp2
  go_quiet ((go_at_call 40; exact mod_q _ _ ((a1 + b1) % 24) _ _ (by omega) (by omega) (by first | exact add_mod a1 b1 | exact add_mod' a1 b1)))
  go_wp2
  go_ret
  exact ⟨rfl, _, rfl⟩

set_option maxHeartbeats 400000 in
theorem addc_2 (a2 b2 : Int) (A B : Nat) (w : World) (ha : w.cell? ⟨A, 2, none⟩ = some (.int .i64 a2)) (hb : w.cell? ⟨B, 2, none⟩ = some (.int .i64 b2)) :
    Calls Try.prog 42 #[.int .i64 2, .pointer (some ⟨A, 0, none⟩), .pointer (some ⟨B, 0, none⟩)] w fun e w' => e = .returned (.int .i64 ((a2 + b2) % 24)) ∧ ∃ n, w' = w.drewN n := by
  go_enter Try.func42, Try.ntmps42
  go_wp2
  go_quiet ((go_at_call 40; exact mod_q _ _ ((a2 + b2) % 24) _ _ (by omega) (by omega) (by first | exact add_mod a2 b2 | exact add_mod' a2 b2)))
  go_wp2
  go_ret
  exact ⟨rfl, _, rfl⟩

set_option maxHeartbeats 400000 in
theorem negc_0 (a0 : Int) (A : Nat) (w : World) (ha : w.cell? ⟨A, 0, none⟩ = some (.int .i64 a0)) :
    Calls Try.prog 43 #[.int .i64 0, .pointer (some ⟨A, 0, none⟩)] w fun e w' => e = .returned (.int .i64 ((-a0) % 24)) ∧ ∃ n, w' = w.drewN n := by
  go_enter Try.func43, Try.ntmps43
  go_wp2_with (go_at_call 40; refine (mod_any _ _ _ (by omega) (by omega)).mono ?_; rintro e w' ⟨rfl, rfl⟩)
  go_ret
  exact ⟨ret_int (by first | exact neg_mod a0 | exact neg_mod' a0), 0, rfl⟩

set_option maxHeartbeats 400000 in
theorem negc_1 (a1 : Int) (A : Nat) (w : World) (ha : w.cell? ⟨A, 1, none⟩ = some (.int .i64 a1)) :
    Calls Try.prog 43 #[.int .i64 1, .pointer (some ⟨A, 0, none⟩)] w fun e w' => e = .returned (.int .i64 ((-a1) % 24)) ∧ ∃ n, w' = w.drewN n := by
  go_enter Try.func43, Try.ntmps43
  go_wp2_with (go_at_call 40; refine (mod_any _ _ _ (by omega) (by omega)).mono ?_; rintro e w' ⟨rfl, rfl⟩)
  go_ret
  exact ⟨ret_int (by first | exact neg_mod a1 | exact neg_mod' a1), 0, rfl⟩

set_option maxHeartbeats 400000 in
theorem negc_2 (a2 : Int) (A : Nat) (w : World) (ha : w.cell? ⟨A, 2, none⟩ = some (.int .i64 a2)) :
    Calls Try.prog 43 #[.int .i64 2, .pointer (some ⟨A, 0, none⟩)] w fun e w' => e = .returned (.int .i64 ((-a2) % 24)) ∧ ∃ n, w' = w.drewN n := by
  go_enter Try.func43, Try.ntmps43
  go_wp2_with (go_at_call 40; refine (mod_any _ _ _ (by omega) (by omega)).mono ?_; rintro e w' ⟨rfl, rfl⟩)
  go_ret
  exact ⟨ret_int (by first | exact neg_mod a2 | exact neg_mod' a2), 0, rfl⟩

set_option maxHeartbeats 400000 in
theorem timesc_0 (n a0 : Int) (N A : Nat) (w : World) (hn : w.cell? ⟨N, 0, none⟩ = some (.int .i64 n)) (ha : w.cell? ⟨A, 0, none⟩ = some (.int .i64 a0)) :
    Calls Try.prog 44 #[.int .i64 0, .pointer (some ⟨N, 0, none⟩), .pointer (some ⟨A, 0, none⟩)] w fun e w' => e = .returned (.int .i64 ((n * a0) % 24)) ∧ ∃ n, w' = w.drewN n := by
  go_enter Try.func44, Try.ntmps44
  go_wp2
  go_quiet ((go_at_call 40; exact mod_q _ _ ((n * a0) % 24) _ _ (by omega) (by omega) (by exact mul_mod n a0)))
  go_wp2
  go_ret
  exact ⟨rfl, _, rfl⟩

set_option maxHeartbeats 400000 in
theorem timesc_1 (n a1 : Int) (N A : Nat) (w : World) (hn : w.cell? ⟨N, 0, none⟩ = some (.int .i64 n)) (ha : w.cell? ⟨A, 1, none⟩ = some (.int .i64 a1)) :
    Calls Try.prog 44 #[.int .i64 1, .pointer (some ⟨N, 0, none⟩), .pointer (some ⟨A, 0, none⟩)] w fun e w' => e = .returned (.int .i64 ((n * a1) % 24)) ∧ ∃ n, w' = w.drewN n := by
  go_enter Try.func44, Try.ntmps44
  go_wp2
  go_quiet ((go_at_call 40; exact mod_q _ _ ((n * a1) % 24) _ _ (by omega) (by omega) (by exact mul_mod n a1)))
  go_wp2
  go_ret
  exact ⟨rfl, _, rfl⟩

set_option maxHeartbeats 400000 in
theorem timesc_2 (n a2 : Int) (N A : Nat) (w : World) (hn : w.cell? ⟨N, 0, none⟩ = some (.int .i64 n)) (ha : w.cell? ⟨A, 2, none⟩ = some (.int .i64 a2)) :
    Calls Try.prog 44 #[.int .i64 2, .pointer (some ⟨N, 0, none⟩), .pointer (some ⟨A, 0, none⟩)] w fun e w' => e = .returned (.int .i64 ((n * a2) % 24)) ∧ ∃ n, w' = w.drewN n := by
  go_enter Try.func44, Try.ntmps44
  go_wp2
  go_quiet ((go_at_call 40; exact mod_q _ _ ((n * a2) % 24) _ _ (by omega) (by omega) (by exact mul_mod n a2)))
  go_wp2
  go_ret
  exact ⟨rfl, _, rfl⟩

end Go.Proofs.Ytpjljlnkfimbaaa
