/-
  Plain law: the order of words; powers of two.
-/
import Derived.Test.YtiloleochmdfoaaCxP4
namespace Go.Proofs.Ytiloleochmdfoaa
open Ieee
/-- A word's place in the order. -/
def srk (s : Bool) (r : Nat) : Int := if s then -(r : Int) else r
theorem cmp_congr {a b c d : Int} (h1 : a < b ↔ c < d) (h2 : a = b ↔ c = d) : compare a b = compare c d := by
  simp only [compare, compareOfLessAndEq, h1, h2]
theorem cmp_lt {x y : Int} (h : x < y) : compare x y = .lt := by simp only [compare, compareOfLessAndEq]; rw [if_pos h]
theorem cmp_gt {x y : Int} (h : y < x) : compare x y = .gt := by simp only [compare, compareOfLessAndEq]; rw [if_neg (by omega), if_neg (by omega)]
theorem cmp_eq {x y : Int} (h : x = y) : compare x y = .eq := by simp only [compare, compareOfLessAndEq]; rw [if_neg (by omega), if_pos h]
theorem read_inf {s : Bool} : double.read (wd s 9218868437227405312) = .infinity s := by cases s <;> decide +kernel
theorem sv_lt {s t : Bool} {a b : Nat} : sv s (mag a) < sv t (mag b) ↔ srk s a < srk t b := by
  have ha := mag_nonneg a; have hb := mag_nonneg b
  unfold sv srk
  cases s <;> cases t
  · simp only [Bool.false_eq_true, if_false]
    constructor
    · intro h
      have : ¬ b ≤ a := fun c => by have := mag_mono c; grind
      omega
    · intro h; exact mag_strict (by omega)
  · simp only [Bool.false_eq_true, if_false, if_true]
    constructor
    · intro h; exfalso; grind
    · intro h; omega
  · simp only [Bool.false_eq_true, if_false, if_true]
    constructor
    · intro h
      have : ¬ (a = 0 ∧ b = 0) := by rintro ⟨rfl, rfl⟩; rw [mag_zero] at h; grind
      omega
    · intro h
      rcases Nat.eq_zero_or_pos a with z | z
      · have := mag_pos (r := b) (by omega); grind
      · have := mag_pos (r := a) (by omega); grind
  · simp only [if_true]
    constructor
    · intro h
      have : ¬ a ≤ b := fun c => by have := mag_mono c; grind
      omega
    · intro h; have := mag_strict (show b < a by omega); grind
theorem order_wd {s t : Bool} {a b : Nat} (ha : a ≤ 9218868437227405312) (hb : b ≤ 9218868437227405312) : double.order (wd s a) (wd t b) = some (compare (srk s a) (srk t b)) := by
  unfold Format.order
  by_cases ia : a = 9218868437227405312
  · subst ia
    rw [read_inf]
    by_cases ib : b = 9218868437227405312
    · subst ib
      rw [read_inf]
      cases s <;> cases t <;> decide
    · rw [read_wd (show b < 9218868437227405312 by omega)]
      simp only [Datum.order]
      refine congrArg some ?_
      cases s
      · exact (cmp_gt (by unfold srk; cases t <;> simp <;> omega)).symm
      · exact (cmp_lt (by unfold srk; cases t <;> simp <;> omega)).symm
  · rw [read_wd (show a < 9218868437227405312 by omega)]
    by_cases ib : b = 9218868437227405312
    · subst ib
      rw [read_inf]
      simp only [Datum.order]
      refine congrArg some ?_
      cases t
      · exact (cmp_lt (by unfold srk; cases s <;> simp <;> omega)).symm
      · exact (cmp_gt (by unfold srk; cases s <;> simp <;> omega)).symm
    · rw [read_wd (show b < 9218868437227405312 by omega)]
      simp only [Datum.order]
      refine congrArg some ?_
      have e1 : ((signed s (mant a) (plc a - min (plc a) (plc b)).toNat : Int) : Rat) * pw (min (plc a) (plc b)) = sv s (mag a) := by
        rw [signed_cast, mag_eq]
        have h1 : pw ((plc a - min (plc a) (plc b)).toNat : Int) * pw (min (plc a) (plc b)) = pw (plc a) := by rw [← pw_add]; congr 1; omega
        unfold sv vl
        cases s <;> simp <;> grind
      have e2 : ((signed t (mant b) (plc b - min (plc a) (plc b)).toNat : Int) : Rat) * pw (min (plc a) (plc b)) = sv t (mag b) := by
        rw [signed_cast, mag_eq]
        have h1 : pw ((plc b - min (plc a) (plc b)).toNat : Int) * pw (min (plc a) (plc b)) = pw (plc b) := by rw [← pw_add]; congr 1; omega
        unfold sv vl
        cases t <;> simp <;> grind
      have hp := pw_pos (min (plc a) (plc b))
      generalize signed s (mant a) (plc a - min (plc a) (plc b)).toNat = x at *
      generalize signed t (mant b) (plc b - min (plc a) (plc b)).toNat = y at *
      generalize pw (min (plc a) (plc b)) = p at *
      have key : ∀ u v : Int, u < v ↔ (u : Rat) * p < (v : Rat) * p := fun u v => by
        constructor
        · intro h
          have : (u : Rat) < (v : Rat) := by exact_mod_cast h
          exact Rat.mul_lt_mul_of_pos_right this hp
        · intro h
          refine Int.lt_of_not_ge fun c => ?_
          have : (v : Rat) ≤ (u : Rat) := by exact_mod_cast c
          have := Rat.mul_le_mul_of_nonneg_right this (Rat.le_of_lt hp)
          grind
      have k1 : x < y ↔ srk s a < srk t b := by rw [key, e1, e2, sv_lt]
      have k2 : y < x ↔ srk t b < srk s a := by rw [key, e1, e2, sv_lt]
      exact cmp_congr k1 (by omega)
/-- The word of a power of two. -/
def pr (k : Int) : Nat := (k + 1023).toNat * 4503599627370496
theorem norm_shift {r r' : Nat} {k : Int} (h : 4503599627370496 ≤ r) (h' : 4503599627370496 ≤ r') (e : (r' : Int) = r + k * 4503599627370496) : mant r' = mant r ∧ plc r' = plc r + k := by
  unfold mant plc
  rw [if_neg (by omega), if_neg (by omega), if_neg (by omega), if_neg (by omega)]
  have : r' % 4503599627370496 = r % 4503599627370496 := by omega
  constructor
  · rw [this]
  · omega
theorem mag_shift {r r' : Nat} {k : Int} (h : 4503599627370496 ≤ r) (h' : 4503599627370496 ≤ r') (e : (r' : Int) = r + k * 4503599627370496) : mag r' = pw k * mag r := by
  obtain ⟨e1, e2⟩ := norm_shift h h' e
  rw [mag_eq, mag_eq, e1, e2]
  unfold vl; rw [pw_add]; grind
theorem mag_pr {k : Int} (h : -1022 ≤ k) : mag (pr k) = pw k := by
  have h0 : mag (pr 0) = 1 := by decide +kernel
  have := mag_shift (r := pr 0) (r' := pr k) (k := k) (by decide) (by unfold pr; omega) (by unfold pr; omega)
  rw [this, h0, Rat.mul_one]
theorem snap {r s : Nat} (h : Rn (mag s) r) : r = s := by
  have := h.ge Rat.le_refl; have := h.le Rat.le_refl; omega
/-- Times a power of two: exact. -/
theorem mul_pow {s : Bool} {r r' : Nat} {k : Int} (hk : -1022 ≤ k ∧ k ≤ 1023) (h : 4503599627370496 ≤ r) (hr : r < 9218868437227405312) (h' : 4503599627370496 ≤ r') (hr' : r' < 9218868437227405312) (e : (r' : Int) = r + k * 4503599627370496) : double.mul (wd false (pr k)) (wd s r) = some (wd s r') := by
  obtain ⟨q, e1, e2, _⟩ := mul_wd (s := false) (t := s) (a := pr k) (b := r) (by unfold pr; omega) hr
  rw [mag_pr hk.1, ← mag_shift h h' e] at e2
  rw [e1, snap e2, Bool.false_xor]
  unfold cutI
  rw [Nat.min_eq_left (by omega)]
theorem mul_pow_zero {s : Bool} {k : Int} (hk : -1022 ≤ k ∧ k ≤ 1023) : double.mul (wd false (pr k)) (wd s 0) = some (wd s 0) := by
  obtain ⟨q, e1, e2, _⟩ := mul_wd (s := false) (t := s) (a := pr k) (b := 0) (by unfold pr; omega) (by decide)
  rw [mag_zero, Rat.mul_zero, ← mag_zero] at e2
  rw [e1, snap e2, Bool.false_xor]
  rfl
theorem rg_shift {m : Nat} {e k : Int} (hm : m ≠ 0) (h1 : -1074 ≤ e + m.log2 - 52) (h2 : -1074 ≤ e + k + m.log2 - 52) : ((rg m (e + k) : Nat) : Int) = rg m e + k * 4503599627370496 := by
  unfold rg
  rw [if_neg hm, if_neg hm]
  rw [Int.max_eq_left (by omega), Int.max_eq_left (by omega)]
  rw [show (e + k - (e + k + (m.log2 : Int) - 52)).toNat = (e - (e + (m.log2 : Int) - 52)).toNat by omega, show (e + k + (m.log2 : Int) - 52 - (e + k)).toNat = (e + (m.log2 : Int) - 52 - e).toNat by omega]
  generalize Toward.even.cut false _ _ = c
  omega
end Go.Proofs.Ytiloleochmdfoaa
