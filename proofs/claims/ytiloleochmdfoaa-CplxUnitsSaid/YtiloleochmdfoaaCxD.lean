/-
  Magnitudes: the functions of math that they call; Abs, Finite.
-/
import Derived.Test.YtiloleochmdfoaaCxC
namespace Go.Proofs.Ytiloleochmdfoaa
open Go.RowKit
attribute [local irreducible] World.setCell

set_option linter.unusedSimpArgs false
set_option linter.unusedVariables false

set_option maxHeartbeats 400000 in
theorem mabs_any (x : Nat) (w : World) (hx : x < 18446744073709551616):
    Calls Try.prog 48 #[.float .f64 x] w fun e w' => e = .returned (.float .f64 (x % 9223372036854775808)) ∧ w = w' := by
  go_enter Try.func48, Try.ntmps48
  go_wp2
  go_ret
  first | exact ⟨rfl, rfl⟩ | simp

set_option maxHeartbeats 400000 in
theorem isinf1_any (x : Nat) (w : World) :
    Calls Try.prog 53 #[.float .f64 x, .int .i64 1] w fun e w' => e = .returned (.bool (infp x)) ∧ w = w' := by
  go_enter Try.func53, Try.ntmps53
  go_wp2
  go_ret
  exact ⟨rfl, rfl⟩

set_option maxHeartbeats 400000 in
theorem isinf0_any (x : Nat) (w : World) (hx : x < 18446744073709551616):
    Calls Try.prog 53 #[.float .f64 x, .int .i64 0] w fun e w' => e = .returned (.bool (infp (x % 9223372036854775808))) ∧ w = w' := by
  go_enter Try.func53, Try.ntmps53
  go_wp2_with (go_at_call 48; refine (mabs_any _ _ hx).mono ?_; rintro e w' ⟨rfl, rfl⟩)
  go_ret
  exact ⟨rfl, rfl⟩

set_option maxHeartbeats 400000 in
theorem isnan_any (x : Nat) (w : World) :
    Calls Try.prog 54 #[.float .f64 x] w fun e w' => e = .returned (.bool (isN x)) ∧ w = w' := by
  go_enter Try.func54, Try.ntmps54
  go_wp2
  go_ret
  exact ⟨rfl, rfl⟩

set_option maxHeartbeats 400000 in
theorem msqrt_any (x : Nat) (w : World) :
    Calls Try.prog 55 #[.float .f64 x] w fun e w' => e = .returned (.float .f64 (sr x w)) ∧ w' = sw x w := by
  go_enter Try.func55, Try.ntmps55
  go_wp2
  go_ret
  exact ⟨rfl, rfl⟩

set_option maxHeartbeats 400000 in
theorem minf_any  (w : World) :
    Calls Try.prog 49 #[.int .i64 1] w fun e w' => e = .returned (.float .f64 9218868437227405312) ∧ w = w' := by
  go_enter Try.func49, Try.ntmps49
  go_wp2
  go_ret
  exact ⟨rfl, rfl⟩

set_option maxHeartbeats 400000 in
theorem mnan_any  (w : World) :
    Calls Try.prog 50 #[] w fun e w' => e = .returned (.float .f64 9221120237041090561) ∧ w = w' := by
  go_enter Try.func50, Try.ntmps50
  go_wp2
  go_ret
  exact ⟨rfl, rfl⟩

def finv (x : Nat) : Bool := !isN x && !infp (x % 9223372036854775808)
set_option maxHeartbeats 400000 in
theorem finite_any (x : Nat) (w : World) (hx : x < 18446744073709551616):
    Calls Try.prog 52 #[.float .f64 x] w fun e w' => e = .returned (.bool (finv x)) ∧ w = w' := by
  go_enter Try.func52, Try.ntmps52
  cases hn : isN x
  · go_wp2_with (first | (go_at_call 54; refine (isnan_any _ _).mono ?_; rintro e w' ⟨rfl, rfl⟩) | (go_at_call 53; refine (isinf0_any _ _ hx).mono ?_; rintro e w' ⟨rfl, rfl⟩))
    go_ret
    refine ⟨ret_b ?_, rfl⟩
    simp [finv, hn]
  · go_wp2_with (first | (go_at_call 54; refine (isnan_any _ _).mono ?_; rintro e w' ⟨rfl, rfl⟩) | (go_at_call 53; refine (isinf0_any _ _ hx).mono ?_; rintro e w' ⟨rfl, rfl⟩))
    go_ret
    refine ⟨ret_b ?_, rfl⟩
    simp [finv, hn]

set_option maxHeartbeats 400000 in
theorem Finite_any (a b : Nat) (w : World) (ha : a < 18446744073709551616) (hb : b < 18446744073709551616):
    Calls Try.prog 14 #[.complex .f64 a b] w fun e w' => e = .returned (.bool (finv a && finv b)) ∧ w = w' := by
  go_enter Try.func14, Try.ntmps14
  cases hn : finv a
  · go_wp2_with (go_at_call 52; refine (finite_any _ _ (by assumption)).mono ?_; rintro e w' ⟨rfl, rfl⟩)
    go_ret
    refine ⟨ret_b ?_, rfl⟩
    simp [hn]
  · go_wp2_with (go_at_call 52; refine (finite_any _ _ (by assumption)).mono ?_; rintro e w' ⟨rfl, rfl⟩)
    go_ret
    refine ⟨ret_b ?_, rfl⟩
    simp [hn]

set_option maxHeartbeats 800000 in
theorem Abs_inf (a b : Nat) (w : World) (ha : a < 18446744073709551616) (hb : b < 18446744073709551616) (h : (infp (a % 9223372036854775808) || infp (b % 9223372036854775808)) = true):
    Calls Try.prog 17 #[.complex .f64 a b] w fun e w' => (∃ r : Nat, e = .returned (.float .f64 r) ∧ r < 18446744073709551616 ∧ cn r = some 9218868437227405312) ∧ Below w.heap.size w w' := by
  go_enter Try.func17, Try.ntmps17
  rcases Bool.or_eq_true_iff.1 h with h1 | h1
  · have h2 := h1
    cases h3 : infp (b % 9223372036854775808)
    all_goals go_wp2_with (first | (go_at_call 48; refine (mabs_any _ _ (by assumption)).mono ?_; rintro e w' ⟨rfl, rfl⟩) | (go_at_call 53; refine (isinf1_any _ _).mono ?_; rintro e w' ⟨rfl, rfl⟩) | (go_at_call 54; refine (isnan_any _ _).mono ?_; rintro e w' ⟨rfl, rfl⟩) | (go_at_call 49; refine (minf_any _).mono ?_; rintro e w' ⟨rfl, rfl⟩) | (go_at_call 50; refine (mnan_any _).mono ?_; rintro e w' ⟨rfl, rfl⟩) | (go_at_call 55; refine (msqrt_any _ _).mono ?_; rintro e w' ⟨rfl, rfl⟩))
    all_goals go_ret
    all_goals exact ⟨⟨_, rfl, by decide, by decide +kernel⟩, Below.refl _ _⟩
  · cases h3 : infp (a % 9223372036854775808)
    all_goals go_wp2_with (first | (go_at_call 48; refine (mabs_any _ _ (by assumption)).mono ?_; rintro e w' ⟨rfl, rfl⟩) | (go_at_call 53; refine (isinf1_any _ _).mono ?_; rintro e w' ⟨rfl, rfl⟩) | (go_at_call 54; refine (isnan_any _ _).mono ?_; rintro e w' ⟨rfl, rfl⟩) | (go_at_call 49; refine (minf_any _).mono ?_; rintro e w' ⟨rfl, rfl⟩) | (go_at_call 50; refine (mnan_any _).mono ?_; rintro e w' ⟨rfl, rfl⟩) | (go_at_call 55; refine (msqrt_any _ _).mono ?_; rintro e w' ⟨rfl, rfl⟩))
    all_goals go_ret
    all_goals exact ⟨⟨_, rfl, by decide, by decide +kernel⟩, Below.refl _ _⟩

set_option maxHeartbeats 800000 in
theorem Abs_nan (a b : Nat) (w : World) (ha : a < 18446744073709551616) (hb : b < 18446744073709551616) (h1 : infp (a % 9223372036854775808) = false) (h2 : infp (b % 9223372036854775808) = false) (h : (isN a || isN b) = true):
    Calls Try.prog 17 #[.complex .f64 a b] w fun e w' => (∃ r : Nat, e = .returned (.float .f64 r) ∧ r < 18446744073709551616 ∧ cn r = none) ∧ Below w.heap.size w w' := by
  have n1 := isN_mod a
  have n2 := isN_mod b
  go_enter Try.func17, Try.ntmps17
  cases h3 : isN a
  all_goals cases h4 : isN b
  all_goals rw [h3] at n1
  all_goals rw [h4] at n2
  all_goals first | (rw [h3, h4] at h; cases h; done) | (go_wp2_with (first | (go_at_call 48; refine (mabs_any _ _ (by assumption)).mono ?_; rintro e w' ⟨rfl, rfl⟩) | (go_at_call 53; refine (isinf1_any _ _).mono ?_; rintro e w' ⟨rfl, rfl⟩) | (go_at_call 54; refine (isnan_any _ _).mono ?_; rintro e w' ⟨rfl, rfl⟩) | (go_at_call 49; refine (minf_any _).mono ?_; rintro e w' ⟨rfl, rfl⟩) | (go_at_call 50; refine (mnan_any _).mono ?_; rintro e w' ⟨rfl, rfl⟩) | (go_at_call 55; refine (msqrt_any _ _).mono ?_; rintro e w' ⟨rfl, rfl⟩)); go_ret; exact ⟨⟨_, rfl, by decide, by decide +kernel⟩, Below.refl _ _⟩)

set_option maxHeartbeats 800000 in
theorem Abs_zero (a b : Nat) (w : World) (ha : a < 18446744073709551616) (hb : b < 18446744073709551616) (h1 : infp (a % 9223372036854775808) = false) (h2 : infp (b % 9223372036854775808) = false) (h3 : isN a = false) (h4 : isN b = false) (hz : zerop (mxv (a % 9223372036854775808) (b % 9223372036854775808)) = true):
    Calls Try.prog 17 #[.complex .f64 a b] w fun e w' => (∃ r : Nat, e = .returned (.float .f64 r) ∧ r < 18446744073709551616 ∧ cn r = some 0) ∧ Below w.heap.size w w' := by
  have n1 := isN_mod a
  have n2 := isN_mod b
  rw [h3] at n1
  rw [h4] at n2
  go_enter Try.func17, Try.ntmps17
  go_wp2_with (first | (go_at_call 48; refine (mabs_any _ _ (by assumption)).mono ?_; rintro e w' ⟨rfl, rfl⟩) | (go_at_call 53; refine (isinf1_any _ _).mono ?_; rintro e w' ⟨rfl, rfl⟩) | (go_at_call 54; refine (isnan_any _ _).mono ?_; rintro e w' ⟨rfl, rfl⟩) | (go_at_call 49; refine (minf_any _).mono ?_; rintro e w' ⟨rfl, rfl⟩) | (go_at_call 50; refine (mnan_any _).mono ?_; rintro e w' ⟨rfl, rfl⟩) | (go_at_call 55; refine (msqrt_any _ _).mono ?_; rintro e w' ⟨rfl, rfl⟩))
  go_ret
  exact ⟨⟨_, rfl, by decide, by decide +kernel⟩, Below.refl _ _⟩

set_option maxHeartbeats 800000 in
theorem Abs_num (a b : Nat) (w : World) (ha : a < 18446744073709551616) (hb : b < 18446744073709551616) (h1 : infp (a % 9223372036854775808) = false) (h2 : infp (b % 9223372036854775808) = false) (h3 : isN a = false) (h4 : isN b = false) (hz : zerop (mxv (a % 9223372036854775808) (b % 9223372036854775808)) = false):
    Calls Try.prog 17 #[.complex .f64 a b] w fun e w' => (∃ r : Nat, e = .returned (.float .f64 r) ∧ r < 18446744073709551616 ∧ cn r = fop .mul (cn (mxv (a % 9223372036854775808) (b % 9223372036854775808))) (fsq (fop .add (some 4607182418800017408) (fop .mul (fop .quo (cn (mnv (a % 9223372036854775808) (b % 9223372036854775808))) (cn (mxv (a % 9223372036854775808) (b % 9223372036854775808)))) (fop .quo (cn (mnv (a % 9223372036854775808) (b % 9223372036854775808))) (cn (mxv (a % 9223372036854775808) (b % 9223372036854775808)))))))) ∧ Below w.heap.size w w' := by
  have n1 := isN_mod a
  have n2 := isN_mod b
  rw [h3] at n1
  rw [h4] at n2
  go_enter Try.func17, Try.ntmps17
  go_wp2_with (first | (go_at_call 48; refine (mabs_any _ _ (by assumption)).mono ?_; rintro e w' ⟨rfl, rfl⟩) | (go_at_call 53; refine (isinf1_any _ _).mono ?_; rintro e w' ⟨rfl, rfl⟩) | (go_at_call 54; refine (isnan_any _ _).mono ?_; rintro e w' ⟨rfl, rfl⟩) | (go_at_call 49; refine (minf_any _).mono ?_; rintro e w' ⟨rfl, rfl⟩) | (go_at_call 50; refine (mnan_any _).mono ?_; rintro e w' ⟨rfl, rfl⟩) | (go_at_call 55; refine (msqrt_any _ _).mono ?_; rintro e w' ⟨rfl, rfl⟩))
  go_ret
  refine ⟨⟨_, rfl, fr_lt _ _ _ _, ?_⟩, ?_⟩
  · simp only [cn_fr, cn_sr]; rfl
  · repeat (first | exact Below.refl _ _ | assumption | exact Below.alloc (Below.refl _ _) (Nat.le_refl _) _ | refine Below.setCell ?_ (by first | (simp; done) | (simp; omega) | omega) _ | refine below_drewN ?_ _ | refine below_fw ?_ _ _ _ | refine below_sw ?_ _ | refine Below.alloc ?_ (by first | (simp; done) | (simp; omega) | omega) _ | refine Below.trans ?_ (Below.mono (by assumption) (by first | (simp; done) | (simp; omega) | omega)))

end Go.Proofs.Ytiloleochmdfoaa
