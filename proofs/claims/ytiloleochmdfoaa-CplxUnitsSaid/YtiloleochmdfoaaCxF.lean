/-
  Unit; the examples of layer 16.
-/
import Derived.Test.YtiloleochmdfoaaCxE
namespace Go.Proofs.Ytiloleochmdfoaa
open Go.RowKit
attribute [local irreducible] World.setCell

set_option linter.unusedSimpArgs false
set_option linter.unusedVariables false

theorem cn_eq {x y : Nat} (h : cn x = some y) : x = y := by
  unfold cn at h; split at h
  · cases h
  · exact Option.some.inj h
def gef (m : Nat) : Bool := FloatKind.f64.format.order m 9110782046170513408 == some Ordering.gt || FloatKind.f64.format.order m 9110782046170513408 == some Ordering.eq
theorem gef_def (m : Nat) : (FloatKind.f64.format.order m 9110782046170513408 == some Ordering.gt || FloatKind.f64.format.order m 9110782046170513408 == some Ordering.eq) = gef m := rfl
def ltf (m : Nat) : Bool := FloatKind.f64.format.order m 553942754166571008 == some Ordering.lt
theorem ltf_def (m : Nat) : (FloatKind.f64.format.order m 553942754166571008 == some Ordering.lt) = ltf m := rfl
attribute [go_sem] gef_def ltf_def
set_option maxHeartbeats 400000 in
theorem Unit_nan (a b : Nat) (w : World) (ha : a < 18446744073709551616) (hb : b < 18446744073709551616) (h : (finv a && finv b) = false):
    Calls Try.prog 25 #[.complex .f64 a b] w fun e w' => e = .returned (.tuple #[.complex .f64 0 0, .int .i64 7]) ∧ w = w' := by
  go_enter Try.func25, Try.ntmps25
  go_wp2_with (go_at_call 14; refine (Finite_any _ _ _ ha hb).mono ?_; rintro e w' ⟨rfl, rfl⟩)
  refine bodyPost_ret (v := .tuple #[.complex .f64 0 0, .int .i64 7]) (by simp [results, Try.results25, go_sem, *]) rfl ⟨rfl, rfl⟩

set_option maxHeartbeats 400000 in
theorem Unit_zero (a b : Nat) (w : World) (ha : a < 18446744073709551616) (hb : b < 18446744073709551616) (h : (finv a && finv b) = true) (hz : (zerop a && zerop b) = true):
    Calls Try.prog 25 #[.complex .f64 a b] w fun e w' => e = .returned (.tuple #[.complex .f64 0 0, .int .i64 8]) ∧ w = w' := by
  obtain ⟨z1, z2⟩ := Bool.and_eq_true_iff.1 hz
  go_enter Try.func25, Try.ntmps25
  go_wp2_with (go_at_call 14; refine (Finite_any _ _ _ ha hb).mono ?_; rintro e w' ⟨rfl, rfl⟩)
  refine bodyPost_ret (v := .tuple #[.complex .f64 0 0, .int .i64 8]) (by simp [results, Try.results25, go_sem, *]) rfl ⟨rfl, rfl⟩

set_option maxHeartbeats 1600000 in
theorem Unit_plain (a b : Nat) (V : Option Nat) (w : World) (ha : a < 18446744073709551616) (hb : b < 18446744073709551616) (h : (finv a && finv b) = true) (hz : (zerop a && zerop b) = false) (hg : gef (mxv (a % 9223372036854775808) (b % 9223372036854775808)) = false) (hl : ltf (mxv (a % 9223372036854775808) (b % 9223372036854775808)) = false) (hA : ∀ w : World, Calls Try.prog 17 #[.complex .f64 a b] w fun e w' => (∃ r : Nat, e = .returned (.float .f64 r) ∧ r < 18446744073709551616 ∧ cn r = V) ∧ Below w.heap.size w w'):
    Calls Try.prog 25 #[.complex .f64 a b] w fun e w' => (∃ r i : Nat, e = .returned (.tuple #[.complex .f64 r i, .int .i64 0]) ∧ cn r = fop .quo (cn a) (V) ∧ cn i = fop .quo (cn b) (V)) ∧ Below w.heap.size w w' := by
  obtain ⟨f1, f2⟩ := Bool.and_eq_true_iff.1 h
  have n1 : isN (a % 9223372036854775808) = false := by rw [isN_mod]; unfold finv at f1; revert f1; cases isN a <;> simp
  have n2 : isN (b % 9223372036854775808) = false := by rw [isN_mod]; unfold finv at f2; revert f2; cases isN b <;> simp
  go_enter Try.func25, Try.ntmps25
  cases hz1 : zerop a
  all_goals cases hz2 : zerop b
  all_goals rw [hz1, hz2] at hz
  all_goals first | (cases hz; done) | skip
  all_goals go_wp2_with (first | (go_at_call 14; refine (Finite_any _ _ _ ha hb).mono ?_; rintro e w' ⟨rfl, rfl⟩) | (go_at_call 48; refine (mabs_any _ _ (by assumption)).mono ?_; rintro e w' ⟨rfl, rfl⟩) | fail)
  all_goals refine (hA _).mono ?_
  all_goals rintro e w1 ⟨⟨m, rfl, hm, em⟩, hb1⟩
  all_goals go_wp2
  all_goals refine bodyPost_ret (v := .tuple #[.complex .f64 (fr .quo a m w1) (fr .quo b m (fw .quo a m w1)), .int .i64 0]) (by simp [results, Try.results25, go_sem, *]) rfl ⟨⟨_, _, rfl, ?_, ?_⟩, ?_⟩
  all_goals first | (rw [cn_fr, em]; done) | (repeat (first | exact Below.refl _ _ | assumption | exact Below.alloc (Below.refl _ _) (Nat.le_refl _) _ | refine Below.setCell ?_ (by first | (simp; done) | (simp; omega) | omega) _ | refine below_drewN ?_ _ | refine below_fw ?_ _ _ _ | refine below_sw ?_ _ | refine Below.alloc ?_ (by first | (simp; done) | (simp; omega) | omega) _ | refine Below.trans ?_ (Below.mono (by assumption) (by first | (simp; done) | (simp; omega) | omega))))

theorem aw_abs7 : ∀ w : World, Calls Try.prog 17 #[.complex .f64 0 13842939354630062080] w fun e w' => (∃ r : Nat, e = .returned (.float .f64 r) ∧ r < 18446744073709551616 ∧ cn r = some 4619567317775286272) ∧ Below w.heap.size w w' := fun w => by
  have := Abs_num 0 13842939354630062080 w (by decide) (by decide) (by decide +kernel) (by decide +kernel) (by decide +kernel) (by decide +kernel) (by decide +kernel)
  refine this.mono ?_
  rintro e w' ⟨⟨r, he, hr, er⟩, hb⟩
  exact ⟨⟨r, he, hr, er.trans (by decide +kernel)⟩, hb⟩
theorem aw_unit (w : World) : Calls Try.prog 25 #[.complex .f64 0 13842939354630062080] w fun e w' => e = .returned (.tuple #[.complex .f64 0 13830554455654793216, .int .i64 0]) ∧ Below w.heap.size w w' := by
  refine (Unit_plain 0 13842939354630062080 (some 4619567317775286272) w (by decide) (by decide) (by decide +kernel) (by decide +kernel) (by decide +kernel) (by decide +kernel) aw_abs7).mono ?_
  rintro e w' ⟨⟨r, i, he, er, ei⟩, hb⟩
  have e1 : r = 0 := cn_eq (er.trans (by decide +kernel))
  have e2 : i = 13830554455654793216 := cn_eq (ei.trans (by decide +kernel))
  subst e1; subst e2
  exact ⟨he, hb⟩
theorem aw_mul (w : World) : Calls Try.prog 15 #[.complex .f64 0 4607182418800017408, .complex .f64 0 4607182418800017408] w fun e w' => e = .returned (.complex .f64 13830554455654793216 0) ∧ Below w.heap.size w w' := by
  refine (Mul_any 0 4607182418800017408 0 4607182418800017408 w).mono ?_
  rintro e w' ⟨⟨r, i, he, er, ei⟩, hb⟩
  have e1 : r = 13830554455654793216 := cn_eq (er.trans (by decide +kernel))
  have e2 : i = 0 := cn_eq (ei.trans (by decide +kernel))
  subst e1; subst e2
  exact ⟨he, hb⟩
theorem aw_abs (w : World) : Calls Try.prog 17 #[.complex .f64 4613937818241073152 4616189618054758400] w fun e w' => e = .returned (.float .f64 4617315517961601024) ∧ Below w.heap.size w w' := by
  refine (Abs_num 4613937818241073152 4616189618054758400 w (by decide) (by decide) (by decide +kernel) (by decide +kernel) (by decide +kernel) (by decide +kernel) (by decide +kernel)).mono ?_
  rintro e w' ⟨⟨r, he, hr, er⟩, hb⟩
  have e1 : r = 4617315517961601024 := cn_eq (er.trans (by decide +kernel))
  subst e1
  exact ⟨he, hb⟩
set_option maxHeartbeats 1600000 in
theorem awake_any  (w : World) :
    Calls Try.prog 12 #[] w fun e w' => e = .returned (.bool true) ∧ Below w.heap.size w w' := by
  have k1 : samev 13830554455654793216 13830554455654793216 = true := by decide +kernel
  have k2 : samev 0 0 = true := by decide +kernel
  have k3 : (FloatKind.f64.format.order 4617315517961601024 4617315517961601024 == some Ordering.eq) = true := by decide +kernel
  go_enter Try.func12, Try.ntmps12
  go_wp2_with (first | (go_at_call 29; refine (rSame_any _ _ _ _ _).mono ?_; rintro e w' ⟨rfl, rfl⟩) | (go_at_call 25; refine (aw_unit _).mono ?_; rintro e w' ⟨rfl, hb⟩; have hz := hb.size) | (go_at_call 15; refine (aw_mul _).mono ?_; rintro e w' ⟨rfl, hb⟩; have hz := hb.size) | (go_at_call 17; refine (aw_abs _).mono ?_; rintro e w' ⟨rfl, hb⟩; have hz := hb.size) | fail)
  refine (Sum_any _ 0 2 2 (fun k => if k = 0 then 4607182418800017408 else 0) (fun k => if k = 0 then 0 else 4611686018427387904) _ (by simp) (by omega) (by omega) ?_).mono ?_
  · intro k hk
    rcases (by omega : k = 0 ∨ k = 1) with rfl | rfl <;> (go_simp <;> rfl)
  rintro e w5 ⟨⟨r, i, rfl, er, ei⟩, hb5⟩
  have e1 : r = 4607182418800017408 := cn_eq (er.trans (by decide +kernel))
  have e2 : i = 4611686018427387904 := cn_eq (ei.trans (by decide +kernel))
  subst e1; subst e2
  have k4 : samev 4607182418800017408 4607182418800017408 = true := by decide +kernel
  have k5 : samev 4611686018427387904 4611686018427387904 = true := by decide +kernel
  have hz5 := hb5.size
  simp at hz5
  go_wp2_with (go_at_call 29; refine (rSame_any _ _ _ _ _).mono ?_; rintro e w' ⟨rfl, rfl⟩)
  go_ret
  refine ⟨rfl, ?_⟩
  repeat (first | exact Below.refl _ _ | assumption | exact Below.alloc (Below.refl _ _) (Nat.le_refl _) _ | refine Below.setCell ?_ (by first | (simp; done) | (simp; omega) | omega) _ | refine below_drewN ?_ _ | refine below_fw ?_ _ _ _ | refine below_sw ?_ _ | refine Below.alloc ?_ (by first | (simp; done) | (simp; omega) | omega) _ | refine Below.trans ?_ (Below.mono (by assumption) (by first | (simp; done) | (simp; omega) | omega)))

end Go.Proofs.Ytiloleochmdfoaa
