/-
  Small functions of layer 16 and of its reference: same, finite, scaled, products.
-/
import Derived.Test.YtiloleochmdfoaaCxA
namespace Go.Proofs.Ytiloleochmdfoaa
open Go.RowKit
attribute [local irreducible] World.setCell

set_option linter.unusedSimpArgs false
set_option linter.unusedVariables false

theorem ret_b {a b : Bool} (h : a = b) : Ending.returned (.bool a) = .returned (.bool b) := by rw [h]
theorem natcast_ne {x y : Nat} (h : x ≠ y) : ((x : Int) == (y : Int)) = false := by simp; omega
theorem natcast_dec {x y : Nat} (h : x ≠ y) : decide ((x : Int) = (y : Int)) = false := by simp; omega
theorem isN_int (x : Nat) : decide ((9218868437227405312 : Int) < (x : Int) % 9223372036854775808) = isN x := by
  unfold isN
  congr 1
  apply propext
  omega
set_option maxHeartbeats 400000 in
theorem same_any (x y : Nat) (w : World) :
    Calls Try.prog 57 #[.float .f64 x, .float .f64 y] w fun e w' => e = .returned (.bool (samev x y)) ∧ w = w' := by
  go_enter Try.func57, Try.ntmps57
  rcases Classical.em (x = y) with h | h
  · subst h
    go_wp2
    go_ret
    refine ⟨ret_b ?_, rfl⟩
    simp [samev]
  · have h1 := natcast_ne h
    have h2 := natcast_dec h
    cases hx : isN x
    · go_wp2
      go_ret
      refine ⟨ret_b ?_, rfl⟩
      simp [samev, h, hx, order_self]
    · go_wp2
      go_ret
      refine ⟨ret_b ?_, rfl⟩
      simp [samev, h, hx, order_self]

set_option maxHeartbeats 400000 in
theorem Same_any (a b c d : Nat) (w : World) :
    Calls Try.prog 20 #[.complex .f64 a b, .complex .f64 c d] w fun e w' => e = .returned (.bool (samev a c && samev b d)) ∧ w = w' := by
  go_enter Try.func20, Try.ntmps20
  cases hs : samev a c
  · go_wp2_with (go_at_call 57; refine (same_any _ _ _).mono ?_; rintro e w' ⟨rfl, rfl⟩)
    go_ret
    refine ⟨ret_b ?_, rfl⟩
    simp [hs]
  · go_wp2_with (go_at_call 57; refine (same_any _ _ _).mono ?_; rintro e w' ⟨rfl, rfl⟩)
    go_ret
    refine ⟨ret_b ?_, rfl⟩
    simp [hs]

set_option maxHeartbeats 400000 in
theorem size_any (x : Nat) (w : World) :
    Calls Try.prog 62 #[.float .f64 x] w fun e w' => e = .returned (.int .u64 ((x : Int) % 9223372036854775808)) ∧ w = w' := by
  go_enter Try.func62, Try.ntmps62
  have e : (x : Int).tmod 9223372036854775808 = (x : Int) % 9223372036854775808 := Int.tmod_eq_emod_of_nonneg (by omega)
  go_wp2
  go_ret
  simp

set_option maxHeartbeats 400000 in
theorem rIsNaN_any (x : Nat) (w : World) :
    Calls Try.prog 61 #[.float .f64 x] w fun e w' => e = .returned (.bool (isN x)) ∧ w = w' := by
  go_enter Try.func61, Try.ntmps61
  go_wp2_with (go_at_call 62; refine (size_any _ _).mono ?_; rintro e w' ⟨rfl, rfl⟩)
  go_ret
  refine ⟨ret_b ?_, rfl⟩
  exact isN_int x

set_option maxHeartbeats 400000 in
theorem rSameFloat_any (x y : Nat) (w : World) :
    Calls Try.prog 36 #[.float .f64 x, .float .f64 y] w fun e w' => e = .returned (.bool (samev x y)) ∧ w = w' := by
  go_enter Try.func36, Try.ntmps36
  rcases Classical.em (x = y) with h | h
  · subst h
    go_wp2
    go_ret
    refine ⟨ret_b ?_, rfl⟩
    simp [samev]
  · have h1 := natcast_ne h
    have h2 := natcast_dec h
    cases hx : isN x
    · go_wp2_with (go_at_call 61; refine (rIsNaN_any _ _).mono ?_; rintro e w' ⟨rfl, rfl⟩)
      go_ret
      refine ⟨ret_b ?_, rfl⟩
      simp [samev, h, hx]
    · go_wp2_with (go_at_call 61; refine (rIsNaN_any _ _).mono ?_; rintro e w' ⟨rfl, rfl⟩)
      go_ret
      refine ⟨ret_b ?_, rfl⟩
      simp [samev, h, hx]

set_option maxHeartbeats 400000 in
theorem rSame_any (a b c d : Nat) (w : World) :
    Calls Try.prog 29 #[.complex .f64 a b, .complex .f64 c d] w fun e w' => e = .returned (.bool (samev a c && samev b d)) ∧ w = w' := by
  go_enter Try.func29, Try.ntmps29
  cases hs : samev a c
  · go_wp2_with (go_at_call 36; refine (rSameFloat_any _ _ _).mono ?_; rintro e w' ⟨rfl, rfl⟩)
    go_ret
    refine ⟨ret_b ?_, rfl⟩
    simp [hs]
  · go_wp2_with (go_at_call 36; refine (rSameFloat_any _ _ _).mono ?_; rintro e w' ⟨rfl, rfl⟩)
    go_ret
    refine ⟨ret_b ?_, rfl⟩
    simp [hs]

set_option maxHeartbeats 400000 in
theorem of_any (a b : Int) (w : World) :
    Calls Try.prog 13 #[.agg #[.int .u64 a, .int .u64 b]] w fun e w' => e = .returned (.complex .f64 a.toNat b.toNat) ∧ Below w.heap.size w w' := by
  go_enter Try.func13, Try.ntmps13
  go_wp2
  go_quiet (fail)
  go_wp2
  go_ret
  refine ⟨rfl, ?_⟩
  repeat (first | exact Below.refl _ _ | assumption | exact Below.alloc (Below.refl _ _) (Nat.le_refl _) _ | refine Below.setCell ?_ (by first | (simp; done) | (simp; omega) | omega) _ | refine below_drewN ?_ _ | refine below_fw ?_ _ _ _ | refine Below.alloc ?_ (by first | (simp; done) | (simp; omega) | omega) _ | refine Below.trans ?_ (Below.mono (by assumption) (by first | (simp; done) | (simp; omega) | omega)))

set_option maxHeartbeats 400000 in
theorem Scale_any (x a b : Nat) (w : World) :
    Calls Try.prog 32 #[.float .f64 x, .complex .f64 a b] w fun e w' => (∃ r i : Nat, e = .returned (.complex .f64 r i) ∧ cn r = fop .mul (cn x) (cn a) ∧ cn i = fop .mul (cn x) (cn b)) ∧ Below w.heap.size w w' := by
  go_enter Try.func32, Try.ntmps32
  go_wp2
  go_ret
  refine ⟨?_, ?_⟩
  · refine ⟨_, _, rfl, ?_, ?_⟩ <;> simp only [cn_fr]
  · repeat (first | exact Below.refl _ _ | assumption | exact Below.alloc (Below.refl _ _) (Nat.le_refl _) _ | refine Below.setCell ?_ (by first | (simp; done) | (simp; omega) | omega) _ | refine below_drewN ?_ _ | refine below_fw ?_ _ _ _ | refine Below.alloc ?_ (by first | (simp; done) | (simp; omega) | omega) _ | refine Below.trans ?_ (Below.mono (by assumption) (by first | (simp; done) | (simp; omega) | omega)))

set_option maxHeartbeats 400000 in
theorem rScale_any (x a b : Nat) (w : World) :
    Calls Try.prog 33 #[.float .f64 x, .complex .f64 a b] w fun e w' => (∃ r i : Nat, e = .returned (.complex .f64 r i) ∧ cn r = fop .mul (cn x) (cn a) ∧ cn i = fop .mul (cn x) (cn b)) ∧ Below w.heap.size w w' := by
  go_enter Try.func33, Try.ntmps33
  go_wp2
  go_ret
  refine ⟨?_, ?_⟩
  · refine ⟨_, _, rfl, ?_, ?_⟩ <;> simp only [cn_fr]
  · repeat (first | exact Below.refl _ _ | assumption | exact Below.alloc (Below.refl _ _) (Nat.le_refl _) _ | refine Below.setCell ?_ (by first | (simp; done) | (simp; omega) | omega) _ | refine below_drewN ?_ _ | refine below_fw ?_ _ _ _ | refine Below.alloc ?_ (by first | (simp; done) | (simp; omega) | omega) _ | refine Below.trans ?_ (Below.mono (by assumption) (by first | (simp; done) | (simp; omega) | omega)))

set_option maxHeartbeats 400000 in
theorem Mul_any (a b c d : Nat) (w : World) :
    Calls Try.prog 15 #[.complex .f64 a b, .complex .f64 c d] w fun e w' => (∃ r i : Nat, e = .returned (.complex .f64 r i) ∧ cn r = fop .sub (fop .mul (cn a) (cn c)) (fop .mul (cn b) (cn d)) ∧ cn i = fop .add (fop .mul (cn a) (cn d)) (fop .mul (cn b) (cn c))) ∧ Below w.heap.size w w' := by
  go_enter Try.func15, Try.ntmps15
  go_wp2
  go_ret
  refine ⟨?_, ?_⟩
  · refine ⟨_, _, rfl, ?_, ?_⟩ <;> simp only [cn_fr]
  · repeat (first | exact Below.refl _ _ | assumption | exact Below.alloc (Below.refl _ _) (Nat.le_refl _) _ | refine Below.setCell ?_ (by first | (simp; done) | (simp; omega) | omega) _ | refine below_drewN ?_ _ | refine below_fw ?_ _ _ _ | refine Below.alloc ?_ (by first | (simp; done) | (simp; omega) | omega) _ | refine Below.trans ?_ (Below.mono (by assumption) (by first | (simp; done) | (simp; omega) | omega)))

set_option maxHeartbeats 400000 in
theorem rMul_any (a b c d : Nat) (w : World) :
    Calls Try.prog 34 #[.complex .f64 a b, .complex .f64 c d] w fun e w' => (∃ r i : Nat, e = .returned (.complex .f64 r i) ∧ cn r = fop .sub (fop .mul (cn a) (cn c)) (fop .mul (cn b) (cn d)) ∧ cn i = fop .add (fop .mul (cn a) (cn d)) (fop .mul (cn b) (cn c))) ∧ Below w.heap.size w w' := by
  go_enter Try.func34, Try.ntmps34
  go_wp2
  go_ret
  refine ⟨?_, ?_⟩
  · refine ⟨_, _, rfl, ?_, ?_⟩ <;> simp only [cn_fr]
  · repeat (first | exact Below.refl _ _ | assumption | exact Below.alloc (Below.refl _ _) (Nat.le_refl _) _ | refine Below.setCell ?_ (by first | (simp; done) | (simp; omega) | omega) _ | refine below_drewN ?_ _ | refine below_fw ?_ _ _ _ | refine Below.alloc ?_ (by first | (simp; done) | (simp; omega) | omega) _ | refine Below.trans ?_ (Below.mono (by assumption) (by first | (simp; done) | (simp; omega) | omega)))

end Go.Proofs.Ytiloleochmdfoaa
