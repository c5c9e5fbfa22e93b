/-
  The sums of translations: frac.Add, Sub, Neg, Times and the reference's, for every input.
-/
import Derived.Test.YtpjljlnkfimbaaaFracA
namespace Go.Proofs.Ytpjljlnkfimbaaa
open Go.RowKit
attribute [local irreducible] World.setCell

theorem entC (g : Nat) (fn : Func) (c : Code) (hf : Try.prog.funcs[g]? = some fn) (hn : (fn.name == "runtime.NumGoroutine") = false) (hb : fn.body = some c) : ∀ args w, (callFunc g args).run Try.prog w = .ok (.enter g args) w := enters_of hf hn hb

set_option maxHeartbeats 400000 in
theorem add_any (a0 a1 a2 b0 b1 b2 : Int) (w : World) :
    Calls Try.prog 17 #[.agg #[.int .i64 a0, .int .i64 a1, .int .i64 a2], .agg #[.int .i64 b0, .int .i64 b1, .int .i64 b2]] w fun e w' => e = .returned (.agg #[.int .i64 ((a0 + b0) % 24), .int .i64 ((a1 + b1) % 24), .int .i64 ((a2 + b2) % 24)]) ∧ Below w.heap.size w w' := by
  have en : ∀ args w, (callFunc 42 args).run Try.prog w = .ok (.enter 42 args) w := enters_of Try.func42 (by kernel_rfl) rfl
  have H := Lib.hid en
  clear en
  go_enter Try.func17, Try.ntmps17
  go_wp2_with (go_at_call 38; refine (each_any 42 _ ((a0 + b0) % 24) ((a1 + b1) % 24) ((a2 + b2) % 24) _ H.out (fun w' hb => ?c0) (fun w' hb => ?c1) (fun w' hb => ?c2)).mono ?_)
  case c0 => obtain ⟨hc, _⟩ := bcell hb; refine addc_0 a0 b0 w.heap.size (w.heap.size + 1) w' ?_ ?_ <;> (rw [hc] <;> first | (go_simp; done) | (simp; omega))
  case c1 => obtain ⟨hc, _⟩ := bcell hb; refine addc_1 a1 b1 w.heap.size (w.heap.size + 1) w' ?_ ?_ <;> (rw [hc] <;> first | (go_simp; done) | (simp; omega))
  case c2 => obtain ⟨hc, _⟩ := bcell hb; refine addc_2 a2 b2 w.heap.size (w.heap.size + 1) w' ?_ ?_ <;> (rw [hc] <;> first | (go_simp; done) | (simp; omega))
  rintro e w' ⟨rfl, hb⟩
  obtain ⟨hc, hf⟩ := bcell hb
  have hz := hb.size
  simp at hz
  go_wp2
  refine bodyPost_ret (v := .agg #[.int .i64 ((a0 + b0) % 24), .int .i64 ((a1 + b1) % 24), .int .i64 ((a2 + b2) % 24)]) (by simp [results, Try.results17, go_sem, *]) rfl ⟨rfl, ?_⟩
  repeat (first | exact Below.refl _ _ | assumption | exact Below.alloc (Below.refl _ _) (Nat.le_refl _) _ | refine Below.setCell ?_ (by first | (simp; done) | (simp; omega) | omega) _ | refine below_drewN ?_ _ | refine Below.alloc ?_ (by first | (simp; done) | (simp; omega) | omega) _ | refine Below.trans ?_ (Below.mono (by assumption) (by first | (simp; done) | (simp; omega) | omega)))

set_option maxHeartbeats 400000 in
theorem neg_any (a0 a1 a2 : Int) (w : World) :
    Calls Try.prog 21 #[.agg #[.int .i64 a0, .int .i64 a1, .int .i64 a2]] w fun e w' => e = .returned (.agg #[.int .i64 ((-a0) % 24), .int .i64 ((-a1) % 24), .int .i64 ((-a2) % 24)]) ∧ Below w.heap.size w w' := by
  have en : ∀ args w, (callFunc 43 args).run Try.prog w = .ok (.enter 43 args) w := enters_of Try.func43 (by kernel_rfl) rfl
  have H := Lib.hid en
  clear en
  go_enter Try.func21, Try.ntmps21
  go_wp2_with (go_at_call 38; refine (each_any 43 _ ((-a0) % 24) ((-a1) % 24) ((-a2) % 24) _ H.out (fun w' hb => ?c0) (fun w' hb => ?c1) (fun w' hb => ?c2)).mono ?_)
  case c0 => obtain ⟨hc, _⟩ := bcell hb; refine negc_0 a0 w.heap.size w' ?_ <;> (rw [hc] <;> first | (go_simp; done) | (simp; omega))
  case c1 => obtain ⟨hc, _⟩ := bcell hb; refine negc_1 a1 w.heap.size w' ?_ <;> (rw [hc] <;> first | (go_simp; done) | (simp; omega))
  case c2 => obtain ⟨hc, _⟩ := bcell hb; refine negc_2 a2 w.heap.size w' ?_ <;> (rw [hc] <;> first | (go_simp; done) | (simp; omega))
  rintro e w' ⟨rfl, hb⟩
  obtain ⟨hc, hf⟩ := bcell hb
  have hz := hb.size
  simp at hz
  go_wp2
  refine bodyPost_ret (v := .agg #[.int .i64 ((-a0) % 24), .int .i64 ((-a1) % 24), .int .i64 ((-a2) % 24)]) (by simp [results, Try.results21, go_sem, *]) rfl ⟨rfl, ?_⟩
  repeat (first | exact Below.refl _ _ | assumption | exact Below.alloc (Below.refl _ _) (Nat.le_refl _) _ | refine Below.setCell ?_ (by first | (simp; done) | (simp; omega) | omega) _ | refine below_drewN ?_ _ | refine Below.alloc ?_ (by first | (simp; done) | (simp; omega) | omega) _ | refine Below.trans ?_ (Below.mono (by assumption) (by first | (simp; done) | (simp; omega) | omega)))

set_option maxHeartbeats 400000 in
theorem times_any (n a0 a1 a2 : Int) (w : World) :
    Calls Try.prog 23 #[.int .i64 n, .agg #[.int .i64 a0, .int .i64 a1, .int .i64 a2]] w fun e w' => e = .returned (.agg #[.int .i64 ((n * a0) % 24), .int .i64 ((n * a1) % 24), .int .i64 ((n * a2) % 24)]) ∧ Below w.heap.size w w' := by
  have en : ∀ args w, (callFunc 44 args).run Try.prog w = .ok (.enter 44 args) w := enters_of Try.func44 (by kernel_rfl) rfl
  have H := Lib.hid en
  clear en
  go_enter Try.func23, Try.ntmps23
  go_wp2_with (go_at_call 38; refine (each_any 44 _ ((n * a0) % 24) ((n * a1) % 24) ((n * a2) % 24) _ H.out (fun w' hb => ?c0) (fun w' hb => ?c1) (fun w' hb => ?c2)).mono ?_)
  case c0 => obtain ⟨hc, _⟩ := bcell hb; refine timesc_0 n a0 w.heap.size (w.heap.size + 1) w' ?_ ?_ <;> (rw [hc] <;> first | (go_simp; done) | (simp; omega))
  case c1 => obtain ⟨hc, _⟩ := bcell hb; refine timesc_1 n a1 w.heap.size (w.heap.size + 1) w' ?_ ?_ <;> (rw [hc] <;> first | (go_simp; done) | (simp; omega))
  case c2 => obtain ⟨hc, _⟩ := bcell hb; refine timesc_2 n a2 w.heap.size (w.heap.size + 1) w' ?_ ?_ <;> (rw [hc] <;> first | (go_simp; done) | (simp; omega))
  rintro e w' ⟨rfl, hb⟩
  obtain ⟨hc, hf⟩ := bcell hb
  have hz := hb.size
  simp at hz
  go_wp2
  refine bodyPost_ret (v := .agg #[.int .i64 ((n * a0) % 24), .int .i64 ((n * a1) % 24), .int .i64 ((n * a2) % 24)]) (by simp [results, Try.results23, go_sem, *]) rfl ⟨rfl, ?_⟩
  repeat (first | exact Below.refl _ _ | assumption | exact Below.alloc (Below.refl _ _) (Nat.le_refl _) _ | refine Below.setCell ?_ (by first | (simp; done) | (simp; omega) | omega) _ | refine below_drewN ?_ _ | refine Below.alloc ?_ (by first | (simp; done) | (simp; omega) | omega) _ | refine Below.trans ?_ (Below.mono (by assumption) (by first | (simp; done) | (simp; omega) | omega)))

theorem sub_mod (a b : Int) : (a + (-b) % 24) % 24 = (a - b) % 24 := by omega

set_option maxHeartbeats 400000 in
theorem sub_any (a0 a1 a2 b0 b1 b2 : Int) (w : World) :
    Calls Try.prog 19 #[.agg #[.int .i64 a0, .int .i64 a1, .int .i64 a2], .agg #[.int .i64 b0, .int .i64 b1, .int .i64 b2]] w fun e w' => e = .returned (.agg #[.int .i64 ((a0 - b0) % 24), .int .i64 ((a1 - b1) % 24), .int .i64 ((a2 - b2) % 24)]) ∧ Below w.heap.size w w' := by
  go_enter Try.func19, Try.ntmps19
  go_wp2
  refine region_head 4 (by kernel_rfl) (by kernel_rfl) ?_
  simp only [List.take_succ_cons, List.take_zero, List.drop_succ_cons, List.drop_zero]
  repeat (go_big_quiet_step (first | (go_at_call 21; exact held_of _ (Nat.le_refl _) (neg_any _ _ _ _)) | (go_at_call 17; exact held_of _ (Nat.le_refl _) (add_any _ _ _ _ _ _ _))))
  refine wpQuiet_nil ?_
  rintro w' ⟨⟨w0, hb⟩, rfl⟩
  obtain ⟨hc, hf⟩ := bcell hb
  have hz := hb.size
  simp at hz
  have z0 : w.heap.size < w'.heap.size := (by omega)
  have z1 : w.heap.size + 1 < w'.heap.size := (by omega)
  have z2 : w.heap.size + 1 + 1 < w'.heap.size := (by omega)
  go_wp2
  refine bodyPost_ret (v := .agg #[.int .i64 ((a0 + -b0 % 24) % 24), .int .i64 ((a1 + -b1 % 24) % 24), .int .i64 ((a2 + -b2 % 24) % 24)]) (by simp [results, Try.results19, go_sem, *]) rfl ⟨vec_eq (sub_mod _ _) (sub_mod _ _) (sub_mod _ _), ?_⟩
  repeat (first | exact Below.refl _ _ | assumption | exact Below.alloc (Below.refl _ _) (Nat.le_refl _) _ | refine Below.setCell ?_ (by first | (simp; done) | (simp; omega) | omega) _ | refine below_drewN ?_ _ | refine Below.alloc ?_ (by first | (simp; done) | (simp; omega) | omega) _ | refine Below.trans ?_ (Below.mono (by assumption) (by first | (simp; done) | (simp; omega) | omega)))

set_option maxHeartbeats 400000 in
theorem bring_any (a0 a1 a2 m : Int) (w : World) (h : 0 < m) (h2 : m ≤ 192):
    Calls Try.prog 37 #[.agg #[.int .i64 a0, .int .i64 a1, .int .i64 a2], .int .i64 m] w fun e w' => e = .returned (.agg #[.int .i64 (a0 % m), .int .i64 (a1 % m), .int .i64 (a2 % m)]) ∧ Below w.heap.size w w' := by
  go_enter Try.func37, Try.ntmps37
  go_wp2
  refine region_head 13 (by kernel_rfl) (by kernel_rfl) ?_
  simp only [List.take_succ_cons, List.take_zero, List.drop_succ_cons, List.drop_zero]
  repeat (go_big_quiet_step ((go_at_call 45; exact held_of _ (Nat.le_refl _) (same_below (rmod_any _ _ _ h h2)))))
  refine wpQuiet_nil ?_
  rintro w' ⟨⟨w0, hb⟩, rfl⟩
  obtain ⟨hc, hf⟩ := bcell hb
  have hz := hb.size
  simp at hz
  have z0 : w.heap.size < w'.heap.size := (by omega)
  have z1 : w.heap.size + 1 < w'.heap.size := (by omega)
  go_wp2
  refine bodyPost_ret (v := .agg #[.int .i64 (a0 % m), .int .i64 (a1 % m), .int .i64 (a2 % m)]) (by simp [results, Try.results37, go_sem, *]) rfl ⟨rfl, ?_⟩
  repeat (first | exact Below.refl _ _ | assumption | exact Below.alloc (Below.refl _ _) (Nat.le_refl _) _ | refine Below.setCell ?_ (by first | (simp; done) | (simp; omega) | omega) _ | refine below_drewN ?_ _ | refine Below.alloc ?_ (by first | (simp; done) | (simp; omega) | omega) _ | refine Below.trans ?_ (Below.mono (by assumption) (by first | (simp; done) | (simp; omega) | omega)))

theorem emod_bd (a m : Int) (h : 0 < m) : 0 ≤ a % m ∧ a % m < m := ⟨Int.emod_nonneg _ (by omega), Int.emod_lt_of_pos _ h⟩
theorem emod_mul_bd (a b m : Int) (h : 0 < m) (h2 : m ≤ 192) : 0 ≤ (a % m) * (b % m) ∧ (a % m) * (b % m) ≤ 36864 := by
  obtain ⟨h1, h3⟩ := emod_bd a m h
  obtain ⟨h4, h5⟩ := emod_bd b m h
  refine ⟨Int.mul_nonneg h1 h4, ?_⟩
  calc (a % m) * (b % m) ≤ 192 * 192 := Int.mul_le_mul (by omega) (by omega) h4 (by omega)
    _ ≤ 36864 := by omega

theorem radd_mod (a b m : Int) : (a % m + b % m) % m = (a + b) % m := (Int.add_emod a b m).symm
theorem rneg_mod (a m : Int) : (-(a % m)) % m = (-a) % m := by rw [← Int.zero_sub, ← Int.zero_sub, Int.sub_emod, Int.emod_emod_of_dvd a (Int.dvd_refl m), ← Int.sub_emod]
theorem rsub_mod (a b m : Int) : (a + (-b) % m) % m = (a - b) % m := by rw [Int.add_emod, Int.emod_emod_of_dvd _ (Int.dvd_refl m), ← Int.add_emod, Int.sub_eq_add_neg]
theorem rmul_mod (a b m : Int) : ((a % m) * (b % m)) % m = (a * b) % m := (Int.mul_emod a b m).symm

set_option maxHeartbeats 400000 in
theorem radd_any (a0 a1 a2 b0 b1 b2 m : Int) (w : World) (h : 0 < m) (h2 : m ≤ 192):
    Calls Try.prog 18 #[.agg #[.int .i64 a0, .int .i64 a1, .int .i64 a2], .agg #[.int .i64 b0, .int .i64 b1, .int .i64 b2], .int .i64 m] w fun e w' => e = .returned (.agg #[.int .i64 ((a0 + b0) % m), .int .i64 ((a1 + b1) % m), .int .i64 ((a2 + b2) % m)]) ∧ Below w.heap.size w w' := by
  have hbda0 := emod_bd a0 m h
  have hbda1 := emod_bd a1 m h
  have hbda2 := emod_bd a2 m h
  have hbdb0 := emod_bd b0 m h
  have hbdb1 := emod_bd b1 m h
  have hbdb2 := emod_bd b2 m h
  go_enter Try.func18, Try.ntmps18
  go_wp2
  refine region_head 6 (by kernel_rfl) (by kernel_rfl) ?_
  simp only [List.take_succ_cons, List.take_zero, List.drop_succ_cons, List.drop_zero]
  repeat (go_big_quiet_step ((go_at_call 37; exact held_of _ (Nat.le_refl _) (bring_any _ _ _ _ _ h h2))))
  refine wpQuiet_nil ?_
  rintro w' ⟨⟨w0, hb⟩, rfl⟩
  obtain ⟨hc, hf⟩ := bcell hb
  have hz := hb.size
  simp at hz
  have z0 : w.heap.size < w'.heap.size := (by omega)
  have z1 : w.heap.size + 1 < w'.heap.size := (by omega)
  have z2 : w.heap.size + 1 + 1 < w'.heap.size := (by omega)
  go_wp2_with (go_at_call 37; refine (bring_any _ _ _ _ _ h h2).mono ?_; rintro e w' ⟨rfl, hb⟩; obtain ⟨hc, hf⟩ := bcell hb; have hz := hb.size; simp at hz; have z0 : w.heap.size < w'.heap.size := (by omega); have z1 : w.heap.size + 1 < w'.heap.size := (by omega); have z2 : w.heap.size + 1 + 1 < w'.heap.size := (by omega))
  refine bodyPost_ret (v := .agg #[.int .i64 ((a0 % m + b0 % m) % m), .int .i64 ((a1 % m + b1 % m) % m), .int .i64 ((a2 % m + b2 % m) % m)]) (by simp [results, Try.results18, go_sem, *]) rfl ⟨vec_eq (radd_mod _ _ _) (radd_mod _ _ _) (radd_mod _ _ _), ?_⟩
  repeat (first | exact Below.refl _ _ | assumption | exact Below.alloc (Below.refl _ _) (Nat.le_refl _) _ | refine Below.setCell ?_ (by first | (simp; done) | (simp; omega) | omega) _ | refine below_drewN ?_ _ | refine Below.alloc ?_ (by first | (simp; done) | (simp; omega) | omega) _ | refine Below.trans ?_ (Below.mono (by assumption) (by first | (simp; done) | (simp; omega) | omega)))

set_option maxHeartbeats 400000 in
theorem rneg_any (a0 a1 a2 m : Int) (w : World) (h : 0 < m) (h2 : m ≤ 192):
    Calls Try.prog 22 #[.agg #[.int .i64 a0, .int .i64 a1, .int .i64 a2], .int .i64 m] w fun e w' => e = .returned (.agg #[.int .i64 ((-a0) % m), .int .i64 ((-a1) % m), .int .i64 ((-a2) % m)]) ∧ Below w.heap.size w w' := by
  have hbda0 := emod_bd a0 m h
  have hbda1 := emod_bd a1 m h
  have hbda2 := emod_bd a2 m h
  go_enter Try.func22, Try.ntmps22
  go_wp2_with (go_at_call 37; refine (bring_any _ _ _ _ _ h h2).mono ?_; rintro e w' ⟨rfl, hb⟩; obtain ⟨hc, hf⟩ := bcell hb; have hz := hb.size; simp at hz; have z0 : w.heap.size < w'.heap.size := (by omega); have z1 : w.heap.size + 1 < w'.heap.size := (by omega))
  refine bodyPost_ret (v := .agg #[.int .i64 ((-(a0 % m)) % m), .int .i64 ((-(a1 % m)) % m), .int .i64 ((-(a2 % m)) % m)]) (by simp [results, Try.results22, go_sem, *]) rfl ⟨vec_eq (rneg_mod _ _) (rneg_mod _ _) (rneg_mod _ _), ?_⟩
  repeat (first | exact Below.refl _ _ | assumption | exact Below.alloc (Below.refl _ _) (Nat.le_refl _) _ | refine Below.setCell ?_ (by first | (simp; done) | (simp; omega) | omega) _ | refine below_drewN ?_ _ | refine Below.alloc ?_ (by first | (simp; done) | (simp; omega) | omega) _ | refine Below.trans ?_ (Below.mono (by assumption) (by first | (simp; done) | (simp; omega) | omega)))

set_option maxHeartbeats 400000 in
theorem rsub_any (a0 a1 a2 b0 b1 b2 m : Int) (w : World) (h : 0 < m) (h2 : m ≤ 192):
    Calls Try.prog 20 #[.agg #[.int .i64 a0, .int .i64 a1, .int .i64 a2], .agg #[.int .i64 b0, .int .i64 b1, .int .i64 b2], .int .i64 m] w fun e w' => e = .returned (.agg #[.int .i64 ((a0 - b0) % m), .int .i64 ((a1 - b1) % m), .int .i64 ((a2 - b2) % m)]) ∧ Below w.heap.size w w' := by
  go_enter Try.func20, Try.ntmps20
  go_wp2
  refine region_head 6 (by kernel_rfl) (by kernel_rfl) ?_
  simp only [List.take_succ_cons, List.take_zero, List.drop_succ_cons, List.drop_zero]
  repeat (go_big_quiet_step (first | (go_at_call 22; exact held_of _ (Nat.le_refl _) (rneg_any _ _ _ _ _ h h2)) | (go_at_call 18; exact held_of _ (Nat.le_refl _) (radd_any _ _ _ _ _ _ _ _ h h2))))
  refine wpQuiet_nil ?_
  rintro w' ⟨⟨w0, hb⟩, rfl⟩
  obtain ⟨hc, hf⟩ := bcell hb
  have hz := hb.size
  simp at hz
  have z0 : w.heap.size < w'.heap.size := (by omega)
  have z1 : w.heap.size + 1 < w'.heap.size := (by omega)
  have z2 : w.heap.size + 1 + 1 < w'.heap.size := (by omega)
  go_wp2
  refine bodyPost_ret (v := .agg #[.int .i64 ((a0 + (-b0) % m) % m), .int .i64 ((a1 + (-b1) % m) % m), .int .i64 ((a2 + (-b2) % m) % m)]) (by simp [results, Try.results20, go_sem, *]) rfl ⟨vec_eq (rsub_mod _ _ _) (rsub_mod _ _ _) (rsub_mod _ _ _), ?_⟩
  repeat (first | exact Below.refl _ _ | assumption | exact Below.alloc (Below.refl _ _) (Nat.le_refl _) _ | refine Below.setCell ?_ (by first | (simp; done) | (simp; omega) | omega) _ | refine below_drewN ?_ _ | refine Below.alloc ?_ (by first | (simp; done) | (simp; omega) | omega) _ | refine Below.trans ?_ (Below.mono (by assumption) (by first | (simp; done) | (simp; omega) | omega)))

set_option maxHeartbeats 400000 in
theorem rtimes_any (n a0 a1 a2 m : Int) (w : World) (h : 0 < m) (h2 : m ≤ 192):
    Calls Try.prog 24 #[.int .i64 n, .agg #[.int .i64 a0, .int .i64 a1, .int .i64 a2], .int .i64 m] w fun e w' => e = .returned (.agg #[.int .i64 ((n * a0) % m), .int .i64 ((n * a1) % m), .int .i64 ((n * a2) % m)]) ∧ Below w.heap.size w w' := by
  have hbd0 := emod_mul_bd n a0 m h h2
  have hbd1 := emod_mul_bd n a1 m h h2
  have hbd2 := emod_mul_bd n a2 m h h2
  go_enter Try.func24, Try.ntmps24
  go_wp2
  refine region_head 6 (by kernel_rfl) (by kernel_rfl) ?_
  simp only [List.take_succ_cons, List.take_zero, List.drop_succ_cons, List.drop_zero]
  repeat (go_big_quiet_step (first | (go_at_call 45; exact held_of _ (Nat.le_refl _) (same_below (rmod_any _ _ _ h h2))) | (go_at_call 37; exact held_of _ (Nat.le_refl _) (bring_any _ _ _ _ _ h h2))))
  refine wpQuiet_nil ?_
  rintro w' ⟨⟨w0, hb⟩, rfl⟩
  obtain ⟨hc, hf⟩ := bcell hb
  have hz := hb.size
  simp at hz
  have z0 : w.heap.size < w'.heap.size := (by omega)
  have z1 : w.heap.size + 1 < w'.heap.size := (by omega)
  go_wp2_with (go_at_call 37; refine (bring_any _ _ _ _ _ h h2).mono ?_; rintro e w' ⟨rfl, hb⟩; obtain ⟨hc, hf⟩ := bcell hb; have hz := hb.size; simp at hz; have z0 : w.heap.size < w'.heap.size := (by omega); have z1 : w.heap.size + 1 < w'.heap.size := (by omega))
  refine bodyPost_ret (v := .agg #[.int .i64 (((n % m) * (a0 % m)) % m), .int .i64 (((n % m) * (a1 % m)) % m), .int .i64 (((n % m) * (a2 % m)) % m)]) (by simp [results, Try.results24, go_sem, *]) rfl ⟨vec_eq (rmul_mod _ _ _) (rmul_mod _ _ _) (rmul_mod _ _ _), ?_⟩
  repeat (first | exact Below.refl _ _ | assumption | exact Below.alloc (Below.refl _ _) (Nat.le_refl _) _ | refine Below.setCell ?_ (by first | (simp; done) | (simp; omega) | omega) _ | refine below_drewN ?_ _ | refine Below.alloc ?_ (by first | (simp; done) | (simp; omega) | omega) _ | refine Below.trans ?_ (Below.mono (by assumption) (by first | (simp; done) | (simp; omega) | omega)))

end Go.Proofs.Ytpjljlnkfimbaaa
