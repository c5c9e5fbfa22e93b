/-
  Plain law: the float operations on finite words, by their magnitudes.
-/
import Derived.Test.YtiloleochmdfoaaCxP1
namespace Go.Proofs.Ytiloleochmdfoaa
open Ieee
theorem div_mod_split {r : Nat} (h : 4503599627370496 ≤ r) : 1 ≤ r / 4503599627370496 := by omega
theorem mag_norm {r : Nat} (h : 4503599627370496 ≤ r) : mag r = vl (4503599627370496 + r % 4503599627370496) (-1074 + (r / 4503599627370496 - 1 : Nat)) := by
  unfold mag; rw [if_neg (by omega)]
theorem mag_lt_succ (r : Nat) : mag r < mag (r + 1) := by
  by_cases h : r + 1 < 4503599627370496
  · unfold mag
    rw [if_pos (by omega), if_pos h]
    unfold vl; push_cast; have := pw_pos (-1074); grind
  · by_cases h1 : r + 1 = 4503599627370496
    · have : r = 4503599627370495 := by omega
      subst this
      unfold mag
      rw [if_pos (by decide), if_neg (by decide)]
      unfold vl; push_cast; have := pw_pos (-1074); simp; grind
    · rw [mag_norm (show 4503599627370496 ≤ r by omega), mag_norm (show 4503599627370496 ≤ r + 1 by omega)]
      by_cases c : r % 4503599627370496 = 4503599627370495
      · rw [c, show (r + 1) % 4503599627370496 = 0 by omega, show (r + 1) / 4503599627370496 - 1 = (r / 4503599627370496 - 1) + 1 by omega]
        rw [show (-1074 : Int) + ((r / 4503599627370496 - 1 + 1 : Nat) : Int) = (-1074 + (r / 4503599627370496 - 1 : Nat)) + 1 by omega]
        generalize (-1074 : Int) + (r / 4503599627370496 - 1 : Nat) = e
        unfold vl; rw [pw_succ]; push_cast; have := pw_pos e; grind
      · rw [show (r + 1) % 4503599627370496 = r % 4503599627370496 + 1 by omega, show (r + 1) / 4503599627370496 = r / 4503599627370496 by omega]
        generalize (-1074 : Int) + (r / 4503599627370496 - 1 : Nat) = e
        unfold vl; push_cast; have := pw_pos e; grind
theorem mag_mono {r s : Nat} (h : r ≤ s) : mag r ≤ mag s := by
  induction s with
  | zero => rw [show r = 0 by omega]; exact Rat.le_refl
  | succ s ih =>
    by_cases c : r = s + 1
    · rw [c]; exact Rat.le_refl
    · have := ih (by omega); have := mag_lt_succ s; grind
theorem mag_strict {r s : Nat} (h : r < s) : mag r < mag s := by
  have := mag_lt_succ r; have := mag_mono (show r + 1 ≤ s from h); grind
theorem mag_le_iff {r s : Nat} : mag r ≤ mag s ↔ r ≤ s := by
  refine ⟨fun h => Nat.le_of_not_lt fun c => ?_, mag_mono⟩
  have := mag_strict c; grind
theorem mag_nonneg (r : Nat) : 0 ≤ mag r := by have := mag_mono (Nat.zero_le r); rw [mag_zero] at this; exact this
theorem mag_inj {r s : Nat} (h : mag r = mag s) : r = s := by
  have := (mag_le_iff (r := r) (s := s)).1 (by rw [h]; exact Rat.le_refl)
  have := (mag_le_iff (r := s) (s := r)).1 (by rw [h]; exact Rat.le_refl)
  omega
/-- Rounding keeps order against numbers of the format. -/
theorem Rn.ge {V : Rat} {r s : Nat} (h : Rn V r) (hs : mag s ≤ V) : s ≤ r := by
  refine Nat.le_of_not_lt fun c => ?_
  have h1 := h.hi
  have h2 := mag_mono (show r + 1 ≤ s from c)
  have h3 := mag_lt_succ r
  grind
theorem Rn.le {V : Rat} {r s : Nat} (h : Rn V r) (hs : V ≤ mag s) : r ≤ s := by
  refine Nat.le_of_not_lt fun c => ?_
  have h1 := h.lo (by omega)
  have h2 := mag_mono (show s ≤ r - 1 by omega)
  have h3 := mag_lt_succ (r - 1)
  rw [show r - 1 + 1 = r by omega] at h3
  grind
/-- Rounding keeps a strict order. -/
theorem Rn.lt_le {V W : Rat} {r s : Nat} (h : Rn V r) (k : Rn W s) (hlt : V < W) : r ≤ s := by
  refine Nat.le_of_not_lt fun c => ?_
  have h1 := h.lo (by omega)
  have h2 := k.hi
  have h3 := mag_mono (show s ≤ r - 1 by omega)
  have h4 := mag_mono (show s + 1 ≤ r by omega)
  grind
/-- A finite word: its sign and its rung. -/
def wd (s : Bool) (r : Nat) : Nat := double.word s r
theorem wd_eq (s : Bool) (r : Nat) : wd s r = if s then 9223372036854775808 + r else r := rfl
/-- What a finite word stands for. -/
def mant (r : Nat) : Nat := if r < 4503599627370496 then r else 4503599627370496 + r % 4503599627370496
def plc (r : Nat) : Int := if r < 4503599627370496 then -1074 else -1074 + (r / 4503599627370496 - 1 : Nat)
theorem mag_eq (r : Nat) : mag r = vl (mant r) (plc r) := by
  unfold mag mant plc; split <;> rfl
theorem read_wd {s : Bool} {r : Nat} (h : r < 9218868437227405312) : double.read (wd s r) = .number s (mant r) (plc r) := by
  have hm : wd s r % 9223372036854775808 = r := by rw [wd_eq]; split <;> omega
  have hs : (wd s r / 9223372036854775808 % 2 == 1) = s := by
    rw [wd_eq]
    cases s
    · simp; omega
    · simp; omega
  unfold Format.read
  rw [show double.signWeight = 9223372036854775808 from rfl, show double.binade = 4503599627370496 from rfl, show double.infRung = 9218868437227405312 from rfl, show double.leastPlace = -1074 from rfl]
  simp only [hm, hs]
  unfold mant plc
  by_cases c : r < 4503599627370496
  · rw [if_pos c, if_pos c, if_pos c]
  · rw [if_neg c, if_neg c, if_neg c, if_pos h]
theorem mant_pos {r : Nat} (h : r ≠ 0) : mant r ≠ 0 := by unfold mant; split <;> omega
theorem mant_lt (r : Nat) : mant r < 9007199254740992 := by unfold mant; split <;> omega
theorem mag_pos {r : Nat} (h : r ≠ 0) : 0 < mag r := by have := mag_strict (show 0 < r by omega); rw [mag_zero] at this; exact this
def cutI (r : Nat) : Nat := min r 9218868437227405312
theorem write_num (s : Bool) (m : Nat) (e : Int) : double.write (.number s m e) = wd s (cutI (rg m e)) := nearest_rg s m e
theorem mul_wd {s t : Bool} {a b : Nat} (ha : a < 9218868437227405312) (hb : b < 9218868437227405312) : ∃ r, double.mul (wd s a) (wd t b) = some (wd (s ^^ t) (cutI r)) ∧ Rn (mag a * mag b) r ∧ r = rg (mant a * mant b) (plc a + plc b) := by
  refine ⟨_, ?_, ?_, rfl⟩
  · unfold Format.mul
    rw [read_wd ha, read_wd hb]
    show some (double.write _) = _
    rw [write_num]
  · rw [mag_eq a, mag_eq b, ← vl_mul]
    exact rn_rg _ _
end Go.Proofs.Ytiloleochmdfoaa
