/-
  Contracts at finite words: Abs, Unit.
-/
import Derived.Test.YtiloleochmdfoaaCxM
import Derived.Test.YtiloleochmdfoaaCxP8
namespace Go.Proofs.Ytiloleochmdfoaa
open Go.RowKit
attribute [local irreducible] World.setCell
set_option linter.unusedSimpArgs false
set_option linter.unusedVariables false

theorem wd_lt {s : Bool} {r : Nat} (h : r ≤ 9218868437227405312) : wd s r < 18446744073709551616 := by rw [wd_eq]; split <;> omega
theorem wd_mod {s : Bool} {r : Nat} (h : r ≤ 9218868437227405312) : wd s r % 9223372036854775808 = r := by rw [wd_eq]; split <;> omega
theorem wd_nan {s : Bool} {r : Nat} (h : r ≤ 9218868437227405312) : isN (wd s r) = false := by unfold isN; rw [wd_mod h]; exact decide_eq_false (by omega)
theorem cn_wd {s : Bool} {r : Nat} (h : r ≤ 9218868437227405312) : cn (wd s r) = some (wd s r) := cn_some (wd_nan h)
theorem wd_false (r : Nat) : wd false r = r := rfl
theorem wd_mod' {r : Nat} (h : r ≤ 9218868437227405312) : r % 9223372036854775808 = r := by omega
theorem fop_mul (x y : Nat) : fop .mul (some x) (some y) = Ieee.double.mul x y := rfl
theorem fop_add (x y : Nat) : fop .add (some x) (some y) = Ieee.double.add x y := rfl
theorem fop_sub (x y : Nat) : fop .sub (some x) (some y) = Ieee.double.sub x y := rfl
theorem fop_quo (x y : Nat) : fop .quo (some x) (some y) = Ieee.double.div x y := rfl
theorem fsq_some (x : Nat) : fsq (some x) = Ieee.double.sqrt x := rfl
theorem order_eq {s t : Bool} {a b : Nat} (ha : a ≤ 9218868437227405312) (hb : b ≤ 9218868437227405312) : FloatKind.f64.format.order (wd s a) (wd t b) = some (compare (srk s a) (srk t b)) := order_wd ha hb
theorem order_nat {a b : Nat} (ha : a ≤ 9218868437227405312) (hb : b ≤ 9218868437227405312) : FloatKind.f64.format.order a b = some (compare (a : Int) (b : Int)) := order_wd (s := false) (t := false) ha hb
theorem mxv_nat {a b : Nat} (ha : a ≤ 9218868437227405312) (hb : b ≤ 9218868437227405312) : mxv a b = max a b := by
  unfold mxv
  rw [order_nat ha hb]
  rcases Nat.lt_trichotomy a b with h | h | h
  · rw [cmp_lt (by omega), Nat.max_eq_right (by omega)]
  · subst h; rw [cmp_eq rfl]; simp
  · rw [cmp_gt (by omega), Nat.max_eq_left (by omega)]
theorem mnv_nat {a b : Nat} (ha : a ≤ 9218868437227405312) (hb : b ≤ 9218868437227405312) : mnv a b = min a b := by
  unfold mnv
  rw [order_nat ha hb]
  rcases Nat.lt_trichotomy a b with h | h | h
  · rw [cmp_lt (by omega), Nat.min_eq_left (by omega)]
  · subst h; rw [cmp_eq rfl]; simp
  · rw [cmp_gt (by omega), Nat.min_eq_right (by omega)]
theorem infp_nat {a : Nat} (ha : a < 9218868437227405312) : infp a = false := by
  unfold infp
  rw [order_nat (by omega) (by decide)]
  rcases Nat.lt_trichotomy a 9218868437227405311 with h | h | h
  · rw [cmp_lt (by omega)]; rfl
  · rw [cmp_eq (by omega)]; rfl
  · omega
theorem zerop_nat {a : Nat} (ha : a < 9218868437227405312) : zerop a = decide (a = 0) := by
  unfold zerop
  rw [order_nat (by omega) (by decide)]
  rcases Nat.eq_zero_or_pos a with h | h
  · subst h; rw [cmp_eq rfl]; rfl
  · rw [cmp_gt (by omega), decide_eq_false (by omega)]; rfl
theorem zerop_wd {s : Bool} {a : Nat} (ha : a < 9218868437227405312) : zerop (wd s a) = decide (a = 0) := by
  unfold zerop
  have := order_eq (s := s) (t := false) (a := a) (b := 0) (by omega) (by decide)
  rw [wd_false] at this
  rw [this]
  rcases Nat.eq_zero_or_pos a with h | h
  · subst h; rw [cmp_eq (by unfold srk; cases s <;> rfl)]; rfl
  · rw [decide_eq_false (by omega)]
    cases s
    · rw [cmp_gt (by unfold srk; simp; omega)]; rfl
    · rw [cmp_lt (by unfold srk; simp; omega)]; rfl
theorem gef_nat {a : Nat} (ha : a < 9218868437227405312) : gef a = decide (pr 1000 ≤ a) := by
  unfold gef
  rw [order_nat (by omega) (by decide)]
  have p : pr 1000 = 9110782046170513408 := by decide
  rw [p]
  rcases Nat.lt_trichotomy a 9110782046170513408 with h | h | h
  · rw [cmp_lt (by omega), decide_eq_false (by omega)]; rfl
  · rw [cmp_eq (by omega), decide_eq_true (by omega)]; rfl
  · rw [cmp_gt (by omega), decide_eq_true (by omega)]; rfl
theorem ltf_nat {a : Nat} (ha : a < 9218868437227405312) : ltf a = decide (a < pr (-900)) := by
  unfold ltf
  rw [order_nat (by omega) (by decide)]
  have p : pr (-900) = 553942754166571008 := by decide
  rw [p]
  rcases Nat.lt_trichotomy a 553942754166571008 with h | h | h
  · rw [cmp_lt (by omega), decide_eq_true (by omega)]; rfl
  · rw [cmp_eq (by omega), decide_eq_false (by omega)]; rfl
  · rw [cmp_gt (by omega), decide_eq_false (by omega)]; rfl
theorem finv_wd {s : Bool} {a : Nat} (ha : a < 9218868437227405312) : finv (wd s a) = true := by
  unfold finv
  rw [wd_nan (by omega), wd_mod (by omega), infp_nat ha]; rfl
/-- Abs of finite words. -/
theorem Abs_fin {sa sb : Bool} {X Y t tt s1 q m : Nat} {r : Rat} (hX : X < 9218868437227405312) (hY : Y < 9218868437227405312) (Q : QOf (max X Y) (min X Y) t tt s1 q r) (h0 : max X Y ≠ 0) (em : Ieee.double.mul (wd false (max X Y)) (wd false q) = some (wd false (cutI m))) (w : World) :
    Calls Try.prog 17 #[.complex .f64 (wd sa X) (wd sb Y)] w fun e w' => e = .returned (.float .f64 (cutI m)) ∧ Below w.heap.size w w' := by
  have hX' : X ≤ 9218868437227405312 := by omega
  have hY' : Y ≤ 9218868437227405312 := by omega
  refine (Abs_num (wd sa X) (wd sb Y) w (wd_lt hX') (wd_lt hY') ?_ ?_ (wd_nan hX') (wd_nan hY') ?_).mono ?_
  · rw [wd_mod hX']; exact infp_nat hX
  · rw [wd_mod hY']; exact infp_nat hY
  · rw [wd_mod hX', wd_mod hY', mxv_nat hX' hY', zerop_nat (by omega)]; exact decide_eq_false h0
  · rintro e w' ⟨⟨r', rfl, _, er⟩, hb⟩
    rw [wd_mod hX', wd_mod hY', mxv_nat hX' hY', mnv_nat hX' hY'] at er
    have lM : max X Y ≤ 9218868437227405312 := by omega
    have lN : min X Y ≤ 9218868437227405312 := by omega
    have c1 : cn (max X Y) = some (wd false (max X Y)) := cn_wd (s := false) lM
    have c2 : cn (min X Y) = some (wd false (min X Y)) := cn_wd (s := false) lN
    rw [c1, c2, fop_quo, Q.e1, fop_mul, Q.e2, show (some 4607182418800017408 : Option Nat) = some (wd false (pr 0)) from rfl, fop_add, Q.e3, fsq_some, Q.e4, fop_mul, em] at er
    exact ⟨by rw [cn_eq er, wd_false], hb⟩
theorem pr_def (k : Int) : pr k = (k + 1023).toNat * 4503599627370496 := rfl
set_option maxHeartbeats 1600000 in
/-- Unit of finite words: neither small nor great. -/
theorem Unit_mid {sa sb : Bool} {X Y t tt s1 q m U V : Nat} {r : Rat} (hX : X < 9218868437227405312) (hY : Y < 9218868437227405312) (h : UOf sa sb X Y t tt s1 q m U V r) (h0 : max X Y ≠ 0) (h1 : pr (-900) ≤ max X Y) (h2 : max X Y < pr 1000) (w : World) :
    Calls Try.prog 25 #[.complex .f64 (wd sa X) (wd sb Y)] w fun e w' => e = .returned (.tuple #[.complex .f64 (wd sa U) (wd sb V), .int .i64 0]) ∧ Below w.heap.size w w' := by
  have hX' : X ≤ 9218868437227405312 := by omega
  have hY' : Y ≤ 9218868437227405312 := by omega
  have em : Ieee.double.mul (wd false (max X Y)) (wd false q) = some (wd false (cutI m)) := by rw [cut_id h.lm]; exact h.em
  refine (Unit_plain (wd sa X) (wd sb Y) (some m) w (wd_lt hX') (wd_lt hY') ?_ ?_ ?_ ?_ ?_).mono ?_
  · rw [finv_wd hX, finv_wd hY]; rfl
  · rw [zerop_wd hX, zerop_wd hY]
    by_cases z : X = 0
    · rw [decide_eq_false (show ¬ Y = 0 by omega), Bool.and_false]
    · rw [decide_eq_false z, Bool.false_and]
  · rw [wd_mod hX', wd_mod hY', mxv_nat hX' hY', gef_nat (by omega)]; exact decide_eq_false (by omega)
  · rw [wd_mod hX', wd_mod hY', mxv_nat hX' hY', ltf_nat (by omega)]; exact decide_eq_false (by omega)
  · intro w0
    refine (Abs_fin hX hY h.qo h0 em w0).mono ?_
    rintro e w' ⟨rfl, hb⟩
    rw [cut_id h.lm]
    exact ⟨⟨m, rfl, by have := h.lm; omega, cn_wd (s := false) (by have := h.lm; omega)⟩, hb⟩
  · rintro e w' ⟨⟨r', i', rfl, er, ei⟩, hb⟩
    have hm : (some m : Option Nat) = some (wd false m) := rfl
    rw [cn_wd hX', hm, fop_quo, h.eU] at er
    rw [cn_wd hY', hm, fop_quo, h.eV] at ei
    exact ⟨by rw [cn_eq er, cn_eq ei], hb⟩

end Go.Proofs.Ytiloleochmdfoaa
