/-
  Places opposite, in finer parts, in order: frac.Opposite, Finer, Order, for every input.
-/
import Derived.Test.YtpjljlnkfimbaaaFracE
namespace Go.Proofs.Ytpjljlnkfimbaaa
open Go.RowKit
attribute [local irreducible] World.setCell

theorem formB_zero {m : Int} : formB m 0 0 0 = rightB m := by
  unfold formB inB
  cases h : rightB m with
  | false => rfl
  | true => have := right_pos h; simp; omega
theorem formB_zero_t {m x y z : Int} (h : formB m x y z = true) : formB m 0 0 0 = true := by rw [formB_zero]; exact formB_right h

set_option maxHeartbeats 400000 in
theorem opp_f (m x y z : Int) (w : World) (h : formB m x y z = false):
    Calls Try.prog 30 #[.agg #[.int .i64 m, .int .i64 x, .int .i64 y, .int .i64 z]] w fun e w' => e = .returned (.tuple #[.agg #[.int .i64 0, .int .i64 0, .int .i64 0, .int .i64 0], .int .i64 3]) ∧ Below w.heap.size w w' := by
  by_cases hr : formB m 0 0 0 = true
  · have H0 := Lib.hid hr; have H1 := Lib.hid h; clear hr h
    go_enter Try.func30, Try.ntmps30
    go_wp2_with (go_at_call 26; refine (minus_f2 _ _ _ _ _ _ _ _ _ H0.out H1.out).mono ?_; rintro e w' ⟨rfl, hb⟩; obtain ⟨hc, hf⟩ := bcell hb; have hz := hb.size; (try simp at hz); try have z0 : w.heap.size < w'.heap.size := (by omega); try have z1 : w.heap.size + 1 < w'.heap.size := (by omega))
    refine bodyPost_ret (v := .tuple #[.agg #[.int .i64 0, .int .i64 0, .int .i64 0, .int .i64 0], .int .i64 3]) (by simp [results, Try.results30, go_sem, *]) rfl ⟨rfl, ?_⟩
    repeat (first | exact Below.refl _ _ | assumption | exact Below.alloc (Below.refl _ _) (Nat.le_refl _) _ | refine Below.setCell ?_ (by first | (simp; done) | (simp; omega) | omega) _ | refine below_drewN ?_ _ | refine Below.alloc ?_ (by first | (simp; done) | (simp; omega) | omega) _ | refine Below.trans ?_ (Below.mono (by assumption) (by first | (simp; done) | (simp; omega) | omega)))
  · have hr : formB m 0 0 0 = false := by simpa using hr
    have H0 := Lib.hid hr; clear hr h
    go_enter Try.func30, Try.ntmps30
    go_wp2_with (go_at_call 26; refine (minus_f1 _ _ _ _ _ _ _ _ _ H0.out).mono ?_; rintro e w' ⟨rfl, hb⟩; obtain ⟨hc, hf⟩ := bcell hb; have hz := hb.size; (try simp at hz); try have z0 : w.heap.size < w'.heap.size := (by omega); try have z1 : w.heap.size + 1 < w'.heap.size := (by omega))
    refine bodyPost_ret (v := .tuple #[.agg #[.int .i64 0, .int .i64 0, .int .i64 0, .int .i64 0], .int .i64 3]) (by simp [results, Try.results30, go_sem, *]) rfl ⟨rfl, ?_⟩
    repeat (first | exact Below.refl _ _ | assumption | exact Below.alloc (Below.refl _ _) (Nat.le_refl _) _ | refine Below.setCell ?_ (by first | (simp; done) | (simp; omega) | omega) _ | refine below_drewN ?_ _ | refine Below.alloc ?_ (by first | (simp; done) | (simp; omega) | omega) _ | refine Below.trans ?_ (Below.mono (by assumption) (by first | (simp; done) | (simp; omega) | omega)))

set_option maxHeartbeats 400000 in
theorem opp_t (m x y z : Int) (w : World) (h : formB m x y z = true):
    Calls Try.prog 30 #[.agg #[.int .i64 m, .int .i64 x, .int .i64 y, .int .i64 z]] w fun e w' => e = .returned (.tuple #[.agg #[.int .i64 m, .int .i64 ((0 - x) % m), .int .i64 ((0 - y) % m), .int .i64 ((0 - z) % m)], .int .i64 0]) ∧ Below w.heap.size w w' := by
  have H0 := Lib.hid (formB_zero_t h); have H1 := Lib.hid h; clear h
  go_enter Try.func30, Try.ntmps30
  go_wp2_with (go_at_call 26; refine (minus_t _ _ _ _ _ _ _ _ H0.out H1.out).mono ?_; rintro e w' ⟨rfl, hb⟩; obtain ⟨hc, hf⟩ := bcell hb; have hz := hb.size; (try simp at hz); try have z0 : w.heap.size < w'.heap.size := (by omega); try have z1 : w.heap.size + 1 < w'.heap.size := (by omega))
  refine bodyPost_ret (v := .tuple #[.agg #[.int .i64 m, .int .i64 ((0 - x) % m), .int .i64 ((0 - y) % m), .int .i64 ((0 - z) % m)], .int .i64 0]) (by simp [results, Try.results30, go_sem, *]) rfl ⟨rfl, ?_⟩
  repeat (first | exact Below.refl _ _ | assumption | exact Below.alloc (Below.refl _ _) (Nat.le_refl _) _ | refine Below.setCell ?_ (by first | (simp; done) | (simp; omega) | omega) _ | refine below_drewN ?_ _ | refine Below.alloc ?_ (by first | (simp; done) | (simp; omega) | omega) _ | refine Below.trans ?_ (Below.mono (by assumption) (by first | (simp; done) | (simp; omega) | omega)))

set_option maxHeartbeats 400000 in
theorem each_finer (m x y z k : Int) (A B : Nat) (w : World) (hm : ((0 < m ∧ m ≤ 192) ∧ (0 ≤ x ∧ x < m) ∧ (0 ≤ y ∧ y < m) ∧ (0 ≤ z ∧ z < m)) ∧ 0 < k ∧ k ≤ 192) (hA : A < w.heap.size) (hB : B < w.heap.size) (ha0 : w.cell? ⟨A, 0, none⟩ = some (.int .i64 m)) (ha1 : w.cell? ⟨A, 1, none⟩ = some (.int .i64 x)) (ha2 : w.cell? ⟨A, 2, none⟩ = some (.int .i64 y)) (ha3 : w.cell? ⟨A, 3, none⟩ = some (.int .i64 z)) (hb0 : w.cell? ⟨B, 0, none⟩ = some (.int .i64 k)) :
    Calls Try.prog 38 #[.func (.func 41) #[] #[.pointer (some ⟨A, 0, none⟩), .pointer (some ⟨B, 0, none⟩)]] w fun e w' => e = .returned (.agg #[.int .i64 (x * (k / m)), .int .i64 (y * (k / m)), .int .i64 (z * (k / m))]) ∧ Below w.heap.size w w' := by
  have en : ∀ args w, (callFunc 41 args).run Try.prog w = .ok (.enter 41 args) w := enters_of Try.func41 (by kernel_rfl) rfl
  refine each_any 41 _ (x * (k / m)) (y * (k / m)) (z * (k / m)) w en (fun w1 hb => ?_) (fun w1 hb => ?_) (fun w1 hb => ?_)
  · exact finerc_0 m x k A B w1 hm.1.1.1 hm.1.1.2 hm.2.1 hm.2.2 (by have := hm.1; omega) (by have := hm.1; omega) ((hb.cell (p := ⟨A, 0, none⟩) hA).trans ha0) ((hb.cell (p := ⟨A, 1, none⟩) hA).trans ha1) ((hb.cell (p := ⟨B, 0, none⟩) hB).trans hb0)
  · exact finerc_1 m y k A B w1 hm.1.1.1 hm.1.1.2 hm.2.1 hm.2.2 (by have := hm.1; omega) (by have := hm.1; omega) ((hb.cell (p := ⟨A, 0, none⟩) hA).trans ha0) ((hb.cell (p := ⟨A, 2, none⟩) hA).trans ha2) ((hb.cell (p := ⟨B, 0, none⟩) hB).trans hb0)
  · exact finerc_2 m z k A B w1 hm.1.1.1 hm.1.1.2 hm.2.1 hm.2.2 (by have := hm.1; omega) (by have := hm.1; omega) ((hb.cell (p := ⟨A, 0, none⟩) hA).trans ha0) ((hb.cell (p := ⟨A, 3, none⟩) hA).trans ha3) ((hb.cell (p := ⟨B, 0, none⟩) hB).trans hb0)

theorem finer_mod {m k x : Int} (hm : rightB m = true) (hk : rightB k = true) (hd : k % m = 0) (h0 : 0 ≤ x) (h1 : x < m) : (x * (k / m)) % k = x * (k / m) := by
  rcases (rightB_iff m).1 hm with rfl | rfl | rfl | rfl <;> rcases (rightB_iff k).1 hk with rfl | rfl | rfl | rfl <;> first | (simp at hd; done) | omega

set_option maxHeartbeats 400000 in
theorem finer_r (m x y z k : Int) (w : World) (hk : rightB k = false):
    Calls Try.prog 15 #[.agg #[.int .i64 m, .int .i64 x, .int .i64 y, .int .i64 z], .int .i64 k] w fun e w' => e = .returned (.tuple #[.agg #[.int .i64 0, .int .i64 0, .int .i64 0, .int .i64 0], .int .i64 1]) ∧ Below w.heap.size w w' := by
  go_enter Try.func15, Try.ntmps15
  go_wp2_with (first | (go_at_call 35; refine (right_any _ _).mono ?_; rintro e w' ⟨rfl, rfl⟩) | (go_at_call 11; refine (form_any _ _ _ _ _).mono ?_; rintro e w' ⟨rfl, hb⟩; obtain ⟨hc, hf⟩ := bcell hb; have hz := hb.size; (try simp at hz); try have z0 : w.heap.size < w'.heap.size := (by omega); try have z1 : w.heap.size + 1 < w'.heap.size := (by omega); try have z2 : w.heap.size + 1 + 1 < w'.heap.size := (by omega)))
  refine bodyPost_ret (v := .tuple #[.agg #[.int .i64 0, .int .i64 0, .int .i64 0, .int .i64 0], .int .i64 1]) (by simp [results, Try.results15, go_sem, *]) rfl ⟨rfl, ?_⟩
  repeat (first | exact Below.refl _ _ | assumption | exact Below.alloc (Below.refl _ _) (Nat.le_refl _) _ | refine Below.setCell ?_ (by first | (simp; done) | (simp; omega) | omega) _ | refine below_drewN ?_ _ | refine Below.alloc ?_ (by first | (simp; done) | (simp; omega) | omega) _ | refine Below.trans ?_ (Below.mono (by assumption) (by first | (simp; done) | (simp; omega) | omega)))

set_option maxHeartbeats 400000 in
theorem finer_d (m x y z k : Int) (w : World) (hk : rightB k = true) (h : formB m x y z = true) (hd : k % m ≠ 0):
    Calls Try.prog 15 #[.agg #[.int .i64 m, .int .i64 x, .int .i64 y, .int .i64 z], .int .i64 k] w fun e w' => e = .returned (.tuple #[.agg #[.int .i64 0, .int .i64 0, .int .i64 0, .int .i64 0], .int .i64 1]) ∧ Below w.heap.size w w' := by
  obtain ⟨k1, k2⟩ := right_pos hk
  obtain ⟨⟨m1, m2⟩, _⟩ := form_hm h
  have hn : (k % m == 0) = false := by simpa using hd
  have hn2 : (k % m != 0) = true := by simpa using hd
  clear hd
  go_enter Try.func15, Try.ntmps15
  go_wp2_with (first | (go_at_call 35; refine (right_any _ _).mono ?_; rintro e w' ⟨rfl, rfl⟩) | (go_at_call 11; refine (form_any _ _ _ _ _).mono ?_; rintro e w' ⟨rfl, hb⟩; obtain ⟨hc, hf⟩ := bcell hb; have hz := hb.size; (try simp at hz); try have z0 : w.heap.size < w'.heap.size := (by omega); try have z1 : w.heap.size + 1 < w'.heap.size := (by omega); try have z2 : w.heap.size + 1 + 1 < w'.heap.size := (by omega)))
  refine bodyPost_ret (v := .tuple #[.agg #[.int .i64 0, .int .i64 0, .int .i64 0, .int .i64 0], .int .i64 1]) (by simp [results, Try.results15, go_sem, *]) rfl ⟨rfl, ?_⟩
  repeat (first | exact Below.refl _ _ | assumption | exact Below.alloc (Below.refl _ _) (Nat.le_refl _) _ | refine Below.setCell ?_ (by first | (simp; done) | (simp; omega) | omega) _ | refine below_drewN ?_ _ | refine Below.alloc ?_ (by first | (simp; done) | (simp; omega) | omega) _ | refine Below.trans ?_ (Below.mono (by assumption) (by first | (simp; done) | (simp; omega) | omega)))

set_option maxHeartbeats 400000 in
theorem finer_f (m x y z k : Int) (w : World) (hk : rightB k = true) (h : formB m x y z = false):
    Calls Try.prog 15 #[.agg #[.int .i64 m, .int .i64 x, .int .i64 y, .int .i64 z], .int .i64 k] w fun e w' => e = .returned (.tuple #[.agg #[.int .i64 0, .int .i64 0, .int .i64 0, .int .i64 0], .int .i64 3]) ∧ Below w.heap.size w w' := by
  go_enter Try.func15, Try.ntmps15
  go_wp2_with (first | (go_at_call 35; refine (right_any _ _).mono ?_; rintro e w' ⟨rfl, rfl⟩) | (go_at_call 11; refine (form_any _ _ _ _ _).mono ?_; rintro e w' ⟨rfl, hb⟩; obtain ⟨hc, hf⟩ := bcell hb; have hz := hb.size; (try simp at hz); try have z0 : w.heap.size < w'.heap.size := (by omega); try have z1 : w.heap.size + 1 < w'.heap.size := (by omega); try have z2 : w.heap.size + 1 + 1 < w'.heap.size := (by omega)))
  refine bodyPost_ret (v := .tuple #[.agg #[.int .i64 0, .int .i64 0, .int .i64 0, .int .i64 0], .int .i64 3]) (by simp [results, Try.results15, go_sem, *]) rfl ⟨rfl, ?_⟩
  repeat (first | exact Below.refl _ _ | assumption | exact Below.alloc (Below.refl _ _) (Nat.le_refl _) _ | refine Below.setCell ?_ (by first | (simp; done) | (simp; omega) | omega) _ | refine below_drewN ?_ _ | refine Below.alloc ?_ (by first | (simp; done) | (simp; omega) | omega) _ | refine Below.trans ?_ (Below.mono (by assumption) (by first | (simp; done) | (simp; omega) | omega)))

set_option maxHeartbeats 400000 in
theorem finer_t (m x y z k : Int) (w : World) (hk : rightB k = true) (h : formB m x y z = true) (hd : k % m = 0):
    Calls Try.prog 15 #[.agg #[.int .i64 m, .int .i64 x, .int .i64 y, .int .i64 z], .int .i64 k] w fun e w' => e = .returned (.tuple #[.agg #[.int .i64 k, .int .i64 (x * (k / m)), .int .i64 (y * (k / m)), .int .i64 (z * (k / m))], .int .i64 0]) ∧ Below w.heap.size w w' := by
  obtain ⟨k1, k2⟩ := right_pos hk
  have hm := form_hm h
  obtain ⟨⟨m1, m2⟩, hx, hy, hz'⟩ := hm
  have Hm := Lib.hid (And.intro (form_hm h) (right_pos hk))
  have E := Lib.hid (And.intro (finer_mod (formB_right h) hk hd hx.1 hx.2) (And.intro (finer_mod (formB_right h) hk hd hy.1 hy.2) (finer_mod (formB_right h) hk hd hz'.1 hz'.2)))
  have HK := Lib.hid hk
  have hn : (k % m == 0) = true := by simpa using hd
  have hn2 : (k % m != 0) = false := by simpa using hd
  clear hd hx hy hz'
  go_enter Try.func15, Try.ntmps15
  go_wp2_with (first | (go_at_call 35; refine (right_any _ _).mono ?_; rintro e w' ⟨rfl, rfl⟩) | (go_at_call 11; refine (form_any _ _ _ _ _).mono ?_; rintro e w' ⟨rfl, hb⟩; obtain ⟨hc, hf⟩ := bcell hb; have hz := hb.size; (try simp at hz); try have z0 : w.heap.size < w'.heap.size := (by omega); try have z1 : w.heap.size + 1 < w'.heap.size := (by omega); try have z2 : w.heap.size + 1 + 1 < w'.heap.size := (by omega)))
  refine region_head 6 (by kernel_rfl) (by kernel_rfl) ?_
  simp only [List.take_succ_cons, List.take_zero, List.drop_succ_cons, List.drop_zero]
  repeat (go_big_quiet_step (first | (go_at_call 38; refine held_of _ (Nat.le_refl _) (each_finer m x y z k _ _ _ Hm.out ?_ ?_ ?_ ?_ ?_ ?_ ?_) <;> first | (go_simp; done) | (simp; omega) | omega) | (go_at_call 13; exact held_of _ (Nat.le_refl _) (place_t _ _ _ _ _ HK.out))))
  refine wpQuiet_nil ?_
  rintro w' ⟨⟨w0, hb⟩, rfl⟩
  obtain ⟨hc, hf⟩ := bcell hb
  have hz := hb.size
  try simp at hz
  try have z0 : w.heap.size < w'.heap.size := (by omega)
  try have z1 : w.heap.size + 1 < w'.heap.size := (by omega)
  try have z2 : w.heap.size + 1 + 1 < w'.heap.size := (by omega)
  go_wp2
  refine bodyPost_ret (v := .tuple #[.agg #[.int .i64 k, .int .i64 ((x * (k / m)) % k), .int .i64 ((y * (k / m)) % k), .int .i64 ((z * (k / m)) % k)], .int .i64 0]) (by simp [results, Try.results15, go_sem, *]) rfl ⟨tup_eq E.out.1 E.out.2.1 E.out.2.2, ?_⟩
  repeat (first | exact Below.refl _ _ | assumption | exact Below.alloc (Below.refl _ _) (Nat.le_refl _) _ | refine Below.setCell ?_ (by first | (simp; done) | (simp; omega) | omega) _ | refine below_drewN ?_ _ | refine Below.alloc ?_ (by first | (simp; done) | (simp; omega) | omega) _ | refine Below.trans ?_ (Below.mono (by assumption) (by first | (simp; done) | (simp; omega) | omega)))

end Go.Proofs.Ytpjljlnkfimbaaa
