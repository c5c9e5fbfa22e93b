/-
  What the law CplxUnits meets.
-/
import Derived.Test.YtiloleochmdfoaaCxU3
namespace Go.Proofs.Ytiloleochmdfoaa
open Go.RowKit
attribute [local irreducible] World.setCell
set_option linter.unusedSimpArgs false
set_option linter.unusedVariables false

theorem Abs2_fin {sa sb : Bool} {U V w1 w2 S : Nat} (hU : U ≤ 9218868437227405312) (hV : V ≤ 9218868437227405312) (h1 : Ieee.double.mul (wd sa U) (wd sa U) = some (wd false w1)) (h2 : Ieee.double.mul (wd sb V) (wd sb V) = some (wd false w2)) (h3 : Ieee.double.add (wd false w1) (wd false w2) = some (wd false S)) (w : World) :
    Calls Try.prog 26 #[.complex .f64 (wd sa U) (wd sb V)] w fun e w' => e = .returned (.float .f64 S) ∧ Below w.heap.size w w' := by
  refine (Abs2_any _ _ w).mono ?_
  rintro e w' ⟨⟨r, rfl, er⟩, hb⟩
  rw [cn_wd hU, cn_wd hV, fop_mul, fop_mul, h1, h2, fop_add, h3] at er
  exact ⟨by rw [cn_eq er, wd_false], hb⟩
theorem sgn_wd {s : Bool} {r : Nat} (h : r ≤ 9218868437227405312) : sgn (wd s r) = s := by
  unfold sgn
  rw [wd_eq]
  cases s
  · simp; omega
  · simp
theorem ng_wd {s : Bool} {r : Nat} (h : r ≤ 9218868437227405312) : ng (wd s r) = wd (!s) r := by
  rw [wd_eq, wd_eq]
  cases s
  · simp only [Bool.false_eq_true, if_false, Bool.not_false, if_true]
    rw [ng_low (by omega)]
  · simp only [if_true, Bool.not_true, Bool.false_eq_true, if_false]
    exact ng_high (by omega)
theorem not_lt_of {x y : Int} (h : y ≤ x) : (some (compare x y) == some Ordering.lt) = false := by
  rcases Int.lt_or_eq_of_le h with c | c
  · rw [cmp_gt c]; rfl
  · rw [cmp_eq c.symm]; rfl
theorem not_gt_of {x y : Int} (h : x ≤ y) : (some (compare x y) == some Ordering.gt) = false := by
  rcases Int.lt_or_eq_of_le h with c | c
  · rw [cmp_lt c]; rfl
  · rw [cmp_eq c]; rfl
/-- What the law meets on its first way. -/
structure UF (a b u v m S off s2 t2 r2 : Nat) : Prop where
  unit : ∀ w : World, Calls Try.prog 25 #[.complex .f64 a b] w fun e w' => e = .returned (.tuple #[.complex .f64 u v, .int .i64 0]) ∧ Below w.heap.size w w'
  abs2 : ∀ w : World, Calls Try.prog 26 #[.complex .f64 u v] w fun e w' => e = .returned (.float .f64 S) ∧ Below w.heap.size w w'
  f1 : ∀ w, fr .sub S 4607182418800017408 w = off ∧ fw .sub S 4607182418800017408 w = w
  c1 : (FloatKind.f64.format.order off (ng (pr (-45))) == some Ordering.lt) = false
  c2 : (FloatKind.f64.format.order off (pr (-45)) == some Ordering.gt) = false
  lu : u < 18446744073709551616
  lv : v < 18446744073709551616
  g1 : sgn u = sgn a
  g2 : sgn v = sgn b
  abs : ∀ w : World, Calls Try.prog 17 #[.complex .f64 a b] w fun e w' => e = .returned (.float .f64 m) ∧ Below w.heap.size w w'
  f2 : ∀ w, fr .add (a % 9223372036854775808) (b % 9223372036854775808) w = s2 ∧ fw .add (a % 9223372036854775808) (b % 9223372036854775808) w = w
  f3 : ∀ w, fr .mul s2 (pr (-50)) w = t2 ∧ fw .mul s2 (pr (-50)) w = w
  f4 : ∀ w, fr .add s2 t2 w = r2 ∧ fw .add s2 t2 w = w
  c3 : (FloatKind.f64.format.order m (a % 9223372036854775808) == some Ordering.lt) = false
  c4 : (FloatKind.f64.format.order m (b % 9223372036854775808) == some Ordering.lt) = false
  c5 : (FloatKind.f64.format.order m r2 == some Ordering.gt) = false
/-- What the law meets on its second way. -/
structure UG (a b u v m n' a1 b1 m1 : Nat) : Prop where
  scale : ∀ w : World, Calls Try.prog 32 #[.float .f64 n', .complex .f64 a b] w fun e w' => e = .returned (.complex .f64 a1 b1) ∧ Below w.heap.size w w'
  unit : ∀ w : World, Calls Try.prog 25 #[.complex .f64 a1 b1] w fun e w' => e = .returned (.tuple #[.complex .f64 u v, .int .i64 0]) ∧ Below w.heap.size w w'
  abs : ∀ w : World, Calls Try.prog 17 #[.complex .f64 a1 b1] w fun e w' => e = .returned (.float .f64 m1) ∧ Below w.heap.size w w'
  f5 : ∀ w, fr .mul n' m w = m1 ∧ fw .mul n' m w = w
  c6 : (FloatKind.f64.format.order m1 m1 == some Ordering.eq) = true
theorem uf_is (sa sb : Bool) {X Y : Nat} (hX : X < 9218868437227405312) (hY : Y < 9218868437227405312) (h0 : max X Y ≠ 0) : ∃ u v m S off s2 t2 r2, UF (wd sa X) (wd sb Y) u v m S off s2 t2 r2 ∧
    (Mid X → Mid Y → ∀ n : Int, -300 ≤ n ∧ n ≤ 300 → ∃ a1 b1 m1, UG (wd sa X) (wd sb Y) u v m (pr n) a1 b1 m1) := by
  obtain ⟨U, V, h⟩ := unit_fin sa sb hX hY h0
  obtain ⟨w1, w2, S, off, sg, k1, k2, k3, lS, k4, lo⟩ := h.near
  have p45 : pr (-45) = 4404508001604567040 + 0 ∨ pr (-45) < 9218868437227405312 := .inr (by decide)
  have p45' : pr (-45) < 9218868437227405312 := by decide
  have lU := h.lU; have lV := h.lV
  have hM : max X Y < 9218868437227405312 := by omega
  obtain ⟨t, tt, s1, q, r, Q⟩ := q_of hM h0 (show min X Y ≤ max X Y by omega)
  obtain ⟨m, em, mge, er, mle, _, _⟩ := mag_of Q hM h0
  obtain ⟨rs, e1, ns⟩ := add_pos hX hY
  have nsM : Rn (mag (max X Y) + mag (min X Y)) rs := by
    rcases Nat.le_total X Y with c | c
    · rw [Nat.max_eq_right c, Nat.min_eq_left c, Rat.add_comm]; exact ns
    · rw [Nat.max_eq_left c, Nat.min_eq_right c]; exact ns
  have hmr := mle rs nsM
  have hcm : cutI m ≤ 9218868437227405312 := Nat.min_le_right _ _
  have hx : X ≤ cutI m := by unfold cutI; omega
  have hy : Y ≤ cutI m := by unfold cutI; omega
  -- the sum, and a little more
  have hs : ∃ t2 r2, Ieee.double.mul (cutI rs) (pr (-50)) = some t2 ∧ Ieee.double.add (cutI rs) t2 = some r2 ∧ cutI m ≤ r2 ∧ r2 ≤ 9218868437227405312 := by
    by_cases c : rs < 9218868437227405312
    · rw [cut_id c]
      obtain ⟨rt, e2, nt, _⟩ := mul_wd (s := false) (t := false) c (show pr (-50) < 9218868437227405312 by decide)
      rw [mag_pr (by decide)] at nt
      have hrt : rt ≤ rs := nt.le (by
        have h1 : pw (-50) ≤ 1 := by decide +kernel
        have := Rat.mul_le_mul_of_nonneg_left h1 (mag_nonneg rs)
        rw [Rat.mul_one] at this; exact this)
      rw [cut_id (by omega)] at e2
      obtain ⟨rr, e3, nr⟩ := add_pos (a := rs) (b := rt) c (by omega)
      have hrr : rs ≤ rr := nr.ge (by have := mag_nonneg rt; grind)
      exact ⟨_, _, e2, e3, by rw [wd_false]; unfold cutI; omega, by rw [wd_false]; exact Nat.min_le_right _ _⟩
    · have hc : cutI rs = 9218868437227405312 := by unfold cutI; omega
      rw [hc]
      exact ⟨9218868437227405312, 9218868437227405312, by decide +kernel, by decide +kernel, hcm, Nat.le_refl _⟩
  obtain ⟨t2, r2, g1, g2, g3, g4⟩ := hs
  refine ⟨wd sa U, wd sb V, cutI m, S, wd sg off, cutI rs, t2, r2, ⟨h.call, Abs2_fin (by omega) (by omega) k1 k2 k3, fun w => fr_of (op := .sub) k4 w, ?_, ?_, wd_lt (by omega), wd_lt (by omega), ?_, ?_, fun w => Abs_fin hX hY Q h0 em w, fun w => ?_, fun w => fr_of (op := .mul) g1 w, fun w => fr_of (op := .add) g2 w, ?_, ?_, ?_⟩, ?_⟩
  · have e : ng (pr (-45)) = wd true (pr (-45)) := ng_wd (s := false) (by omega)
    rw [e, order_eq (by omega) (by omega)]
    exact not_lt_of (by unfold srk; cases sg <;> simp <;> omega)
  · have := order_eq (s := sg) (t := false) (a := off) (b := pr (-45)) (by omega) (by omega)
    rw [wd_false] at this
    rw [this]
    exact not_gt_of (by unfold srk; cases sg <;> simp <;> omega)
  · rw [sgn_wd (by omega), sgn_wd (by omega)]
  · rw [sgn_wd (by omega), sgn_wd (by omega)]
  · rw [wd_mod (by omega), wd_mod (by omega)]
    exact fr_of (op := .add) e1 w
  · rw [wd_mod (by omega), order_nat hcm (by omega)]
    exact not_lt_of (by omega)
  · rw [wd_mod (by omega), order_nat hcm (by omega)]
    exact not_lt_of (by omega)
  · rw [order_nat hcm g4]
    exact not_gt_of (by omega)
  · intro mX mY n hn
    have gM : Mid (max X Y) := (mid_max mX mY).1
    have p900 : pr (-900) = 553942754166571008 := by decide
    have p1000 : pr 1000 = 9110782046170513408 := by decide
    have hMb : 2805742567851819008 ≤ max X Y ∧ max X Y ≤ 6408622269748215808 := by
      rcases gM with z | z
      · exact absurd z h0
      · exact z
    obtain ⟨t', tt', s1', q', m', r', u⟩ := h.mid (by omega) (by omega)
    have hq := q_unique Q u.qo
    subst hq
    have hm : cutI m = m' := by
      have := u.em
      rw [em] at this
      exact wd_inj (Option.some.inj this)
    obtain ⟨m1, u1, em1⟩ := unit_shift u hn mX mY h0
    obtain ⟨x1, x2⟩ := max_sh hn mX mY
    have eM := sh_of hn hMb
    have lX : sh n X < 9218868437227405312 := by
      have : sh n X ≤ max (sh n X) (sh n Y) := Nat.le_max_left _ _
      omega
    have lY : sh n Y < 9218868437227405312 := by
      have : sh n Y ≤ max (sh n X) (sh n Y) := Nat.le_max_right _ _
      omega
    have h01 : max (sh n X) (sh n Y) ≠ 0 := by omega
    have em2 : Ieee.double.mul (wd false (max (sh n X) (sh n Y))) (wd false q) = some (wd false (cutI m1)) := by rw [cut_id u1.lm]; exact u1.em
    refine ⟨wd sa (sh n X), wd sb (sh n Y), m1, fun w => Scale_wd (k := n) (by omega) (by omega) (by unfold pr; omega) (sh_mul hn mX) (sh_mul hn mY) w, fun w => Unit_mid lX lY u1 h01 (by omega) (by omega) w, fun w => ?_, fun w => ?_, ?_⟩
    · have := Abs_fin (sa := sa) (sb := sb) lX lY u1.qo h01 em2 w
      rw [cut_id u1.lm] at this
      exact this
    · rw [hm]; exact fr_of (op := .mul) em1 w
    · have hlm : m1 ≤ 9218868437227405312 := Nat.le_of_lt u1.lm
      rw [order_nat hlm hlm, cmp_eq rfl]; rfl

end Go.Proofs.Ytiloleochmdfoaa
