/-
  Plain law: how a number is rounded to a float: rungs, their magnitudes, the nearest rung.
-/
import Ieee.Arith
namespace Go.Proofs.Ytiloleochmdfoaa
open Ieee
/-- A power of two. -/
def pw (e : Int) : Rat := (2 : Rat) ^ e
theorem two_ne : (2 : Rat) ≠ 0 := by decide
theorem pw_pos (e : Int) : 0 < pw e := Rat.zpow_pos (by decide)
theorem pw_add (a b : Int) : pw (a + b) = pw a * pw b := Rat.zpow_add two_ne a b
theorem pw_succ (a : Int) : pw (a + 1) = 2 * pw a := by
  rw [pw_add, Rat.mul_comm]; rfl
theorem pw_nat (n : Nat) : pw (n : Int) = ((2 ^ n : Nat) : Rat) := by
  induction n with
  | zero => rfl
  | succ n ih => rw [Int.natCast_succ, pw_succ, ih, Nat.pow_succ]; push_cast; grind
theorem pw_le {a b : Int} (h : a ≤ b) : pw a ≤ pw b := by
  obtain ⟨n, rfl⟩ : ∃ n : Nat, b = a + n := ⟨(b - a).toNat, by omega⟩
  induction n with
  | zero => simp
  | succ n ih =>
    have := ih (by omega)
    have e : a + ((n + 1 : Nat) : Int) = (a + n) + 1 := by omega
    rw [e, pw_succ]
    have := pw_pos (a + n)
    grind
/-- m times a power of two. -/
def vl (m : Nat) (e : Int) : Rat := (m : Rat) * pw e
theorem vl_shift (m k : Nat) (e : Int) : vl (m <<< k) e = vl m (e + k) := by
  unfold vl
  rw [Nat.shiftLeft_eq, pw_add, pw_nat]
  push_cast
  grind
theorem vl_mul (m n : Nat) (e f : Int) : vl (m * n) (e + f) = vl m e * vl n f := by
  unfold vl
  rw [pw_add]; push_cast; grind
theorem vl_pow (m k : Nat) (e : Int) : vl (m * 2 ^ k) e = vl m (e + k) := by
  rw [← vl_shift, Nat.shiftLeft_eq]
/-- A rung's magnitude. -/
def mag (r : Nat) : Rat := if r < 4503599627370496 then vl r (-1074) else vl (4503599627370496 + r % 4503599627370496) (-1074 + (r / 4503599627370496 - 1 : Nat))
theorem cast_le {a b : Nat} (h : a ≤ b) : (a : Rat) ≤ (b : Rat) := by exact_mod_cast h
theorem cut_even (n drop : Nat) (neg : Bool) : 2 * (Toward.even.cut neg n drop * 2 ^ drop) ≤ 2 * n + 2 ^ drop ∧ 2 * n ≤ 2 * (Toward.even.cut neg n drop * 2 ^ drop) + 2 ^ drop := by
  unfold Toward.cut
  simp only
  by_cases h : drop ≤ n.log2 + 2
  · rw [Nat.min_eq_left h]
    rw [show (1 : Nat) <<< drop = 2 ^ drop by rw [Nat.shiftLeft_eq, Nat.one_mul]]
    have hp := Nat.two_pow_pos drop
    have hd := Nat.div_add_mod n (2 ^ drop)
    have hm := Nat.mod_lt n hp
    generalize n / 2 ^ drop = q at *
    generalize n % 2 ^ drop = s at *
    generalize 2 ^ drop = g at *
    rw [← hd]
    by_cases c1 : g < 2 * s
    · simp [c1, Nat.add_mul]; rw [Nat.mul_comm q g]; omega
    · by_cases c2 : g = 2 * s ∧ q % 2 = 1
      · simp [c2.1, c2.2, Nat.add_mul]; rw [Nat.mul_comm q]; omega
      · have : (decide (g < 2 * s) || g == 2 * s && q % 2 == 1) = false := by
          simp [c1]; intro e; by_cases z : q % 2 = 1
          · exact absurd ⟨e, z⟩ c2
          · omega
        rw [this]; simp; rw [Nat.mul_comm q g]; omega
  · rw [Nat.min_eq_right (by omega)]
    rw [show (1 : Nat) <<< (n.log2 + 2) = 2 ^ (n.log2 + 2) by rw [Nat.shiftLeft_eq, Nat.one_mul]]
    have hl : n < 2 ^ (n.log2 + 1) := Nat.lt_log2_self
    have h2 : 2 ^ (n.log2 + 2) = 2 * 2 ^ (n.log2 + 1) := by rw [Nat.pow_succ _ (n.log2 + 1)]; omega
    have h3 : 2 ^ (n.log2 + 2) ≤ 2 ^ drop := Nat.pow_le_pow_right (by decide) (by omega)
    have e1 : n / 2 ^ (n.log2 + 2) = 0 := Nat.div_eq_of_lt (by omega)
    have e2 : n % 2 ^ (n.log2 + 2) = n := Nat.mod_eq_of_lt (by omega)
    rw [e1, e2]
    have c1 : ¬ 2 ^ (n.log2 + 2) < 2 * n := by omega
    simp [c1]; omega
/-- The nearest rung, before the greatest is cut. -/
def rg (m : Nat) (e : Int) : Nat :=
  if m = 0 then 0 else (max (e + m.log2 - 52) (-1074) + 1074).toNat * 4503599627370496 + Toward.even.cut false (m <<< (e - max (e + m.log2 - 52) (-1074)).toNat) (max (e + m.log2 - 52) (-1074) - e).toNat
theorem cut_neg (n d : Nat) (s : Bool) : Toward.even.cut s n d = Toward.even.cut false n d := rfl
theorem nearest_rg (s : Bool) (m : Nat) (e : Int) : double.nearest s m e = double.word s (min (rg m e) 9218868437227405312) := by
  unfold Format.nearest rg
  by_cases h : m = 0
  · rw [if_pos h, if_pos h]; rfl
  · rw [if_neg h, if_neg h]
    rw [show double.leastPlace = -1074 from rfl, show double.binade = 4503599627370496 from rfl, show double.infRung = 9218868437227405312 from rfl, show (double.fractionBits : Int) = 52 from rfl]
    simp only [cut_neg _ _ s, Int.sub_neg]

theorem mag_kept {k : Nat} {l : Int} (hl : -1074 ≤ l) (h1 : k ≤ 9007199254740992) (h2 : -1074 < l → 4503599627370496 ≤ k) : mag ((l + 1074).toNat * 4503599627370496 + k) = vl k l := by
  obtain ⟨d, rfl⟩ : ∃ d : Nat, l = -1074 + d := ⟨(l + 1074).toNat, by omega⟩
  rw [show ((-1074 : Int) + d + 1074).toNat = d by omega]
  unfold mag
  by_cases c : k < 4503599627370496
  · have : d = 0 := by omega
    subst this
    rw [if_pos (by omega)]
    simp
  · rw [if_neg (by omega)]
    by_cases z : k = 9007199254740992
    · subst z
      rw [show (d * 4503599627370496 + 9007199254740992) % 4503599627370496 = 0 by omega, show ((d * 4503599627370496 + 9007199254740992) / 4503599627370496 - 1 : Nat) = d + 1 by omega]
      rw [show (9007199254740992 : Nat) = 4503599627370496 * 2 ^ 1 from rfl, vl_pow]
      rw [Nat.add_zero]
      congr 1; omega
    · rw [show (d * 4503599627370496 + k) % 4503599627370496 = k - 4503599627370496 by omega, show ((d * 4503599627370496 + k) / 4503599627370496 - 1 : Nat) = d by omega]
      rw [show 4503599627370496 + (k - 4503599627370496) = k by omega]
theorem vl_le {a b : Nat} {e : Int} (h : a ≤ b) : vl a e ≤ vl b e := by
  unfold vl
  have := cast_le h
  have hp := pw_pos e
  exact Rat.mul_le_mul_of_nonneg_right this (Rat.le_of_lt hp)
/-- What is known of the nearest rung of V. -/
structure Rn (V : Rat) (r : Nat) : Prop where
  lo : 1 ≤ r → mag (r - 1) + mag r ≤ 2 * V
  hi : 2 * V ≤ mag r + mag (r + 1)
  up : mag r ≤ V + V * pw (-53) + pw (-1075)
  dn : V ≤ mag r + V * pw (-53) + pw (-1075)
theorem mag_zero : mag 0 = 0 := by unfold mag vl; simp
theorem mag_one : mag 1 = pw (-1074) := by unfold mag vl; simp
theorem rn_rg (m : Nat) (e : Int) : Rn (vl m e) (rg m e) := by
  by_cases hm : m = 0
  · subst hm
    have e0 : rg 0 e = 0 := rfl
    have v0 : vl 0 e = 0 := by unfold vl; simp
    have p1 := pw_pos (-1074)
    have p2 := pw_pos (-1075)
    rw [e0, v0]
    exact ⟨fun h => absurd h (by decide), by rw [mag_zero, mag_one]; grind, by rw [mag_zero]; grind, by rw [mag_zero]; grind⟩
  have hr : rg m e = (max (e + m.log2 - 52) (-1074) + 1074).toNat * 4503599627370496 + Toward.even.cut false (m <<< (e - max (e + m.log2 - 52) (-1074)).toNat) (max (e + m.log2 - 52) (-1074) - e).toNat := by
    unfold rg; rw [if_neg hm]
  have hlo : 2 ^ m.log2 ≤ m := Nat.log2_self_le hm
  have hhi : m < 2 ^ (m.log2 + 1) := Nat.lt_log2_self
  generalize hL : max (e + (m.log2 : Int) - 52) (-1074) = l at hr
  have l1 : -1074 ≤ l := by omega
  have l2 : e + (m.log2 : Int) - 52 ≤ l := by omega
  have l3 : -1074 < l → e + (m.log2 : Int) - 52 = l := by omega
  clear hL
  generalize hn : m <<< (e - l).toNat = n at hr
  generalize hd : (l - e).toNat = d at hr
  have hV : vl m e = vl n (l - d) := by
    rw [← hn, vl_shift, ← hd]; congr 1; omega
  have hnhi : n < 2 ^ (53 + d) := by
    rw [← hn, Nat.shiftLeft_eq]
    refine Nat.lt_of_lt_of_le (Nat.mul_lt_mul_of_pos_right hhi (Nat.two_pow_pos _)) ?_
    rw [← Nat.pow_add]
    exact Nat.pow_le_pow_right (by decide) (by omega)
  have hnlo : -1074 < l → 2 ^ (52 + d) ≤ n := by
    intro h
    have := l3 h
    rw [← hn, Nat.shiftLeft_eq]
    refine Nat.le_trans ?_ (Nat.mul_le_mul_right _ hlo)
    rw [← Nat.pow_add]
    exact Nat.pow_le_pow_right (by decide) (by omega)
  have hc := cut_even n d false
  generalize Toward.even.cut false n d = k at hc hr
  have e1 : (2 : Nat) ^ (53 + d) = 9007199254740992 * 2 ^ d := by rw [Nat.pow_add]
  have e2 : (2 : Nat) ^ (52 + d) = 4503599627370496 * 2 ^ d := by rw [Nat.pow_add]
  rw [e1] at hnhi
  rw [e2] at hnlo
  have hg := Nat.two_pow_pos d
  have k1 : k ≤ 9007199254740992 := by
    refine Nat.le_of_not_lt fun h => ?_
    have : 9007199254740993 * 2 ^ d ≤ k * 2 ^ d := Nat.mul_le_mul_right _ h
    omega
  have k2 : -1074 < l → 4503599627370496 ≤ k := by
    intro h
    refine Nat.le_of_not_lt fun hk => ?_
    have : k * 2 ^ d ≤ 4503599627370495 * 2 ^ d := Nat.mul_le_mul_right _ (by omega)
    have := hnlo h
    omega
  have hmr : mag (rg m e) = vl k l := by rw [hr]; exact mag_kept l1 k1 k2
  have hkd : vl (k * 2 ^ d) (l - d) = vl k l := by rw [vl_pow]; congr 1; omega
  have hgd : vl (2 ^ d) (l - d) = pw l := by
    have := vl_pow 1 d (l - d)
    rw [Nat.one_mul] at this
    rw [this]; unfold vl; rw [show l - (d : Int) + d = l by omega]; simp
  have hc1 := vl_le (e := l - d) hc.1
  have hc2 := vl_le (e := l - d) hc.2
  have two : ∀ (a b : Nat) (f : Int), vl (2 * a + b) f = 2 * vl a f + vl b f := by
    intro a b f; unfold vl; push_cast; grind
  have two' : ∀ (a : Nat) (f : Int), vl (2 * a) f = 2 * vl a f := by
    intro a f; unfold vl; push_cast; grind
  rw [two', two, hkd, hgd, ← hV] at hc1
  rw [two', two, hkd, hgd, ← hV] at hc2
  rw [← hmr] at hc1 hc2
  have vk1 : vl (k + 1) l = vl k l + pw l := by unfold vl; push_cast; grind
  have pl := pw_pos l
  have pv : pw l ≤ vl m e * pw (-52) + pw (-1074) := by
    have vp : 0 ≤ vl m e * pw (-52) := by
      unfold vl
      exact Rat.mul_nonneg (Rat.mul_nonneg (by exact_mod_cast Nat.zero_le m) (Rat.le_of_lt (pw_pos _))) (Rat.le_of_lt (pw_pos _))
    by_cases c : -1074 < l
    · have h3 := vl_le (e := l - d) (hnlo c)
      rw [← hV] at h3
      have h4 : vl (4503599627370496 * 2 ^ d) (l - d) * pw (-52) = pw l := by
        rw [vl_pow, show l - (d : Int) + d = l by omega]
        unfold vl
        rw [show (4503599627370496 : Nat) = 2 ^ 52 from rfl, ← pw_nat, Rat.mul_comm (pw _) (pw l), Rat.mul_assoc, ← pw_add]
        show pw l * pw 0 = pw l
        show pw l * 1 = pw l
        exact Rat.mul_one _
      have h5 := Rat.mul_le_mul_of_nonneg_right h3 (Rat.le_of_lt (pw_pos (-52)))
      rw [h4] at h5
      have := pw_pos (-1074)
      grind
    · have : l = -1074 := by omega
      subst this
      grind
  have h53 : pw (-52) = 2 * pw (-53) := by rw [← pw_succ]; congr 1
  have h75 : pw (-1074) = 2 * pw (-1075) := by rw [← pw_succ]; congr 1
  have hup : vl m e * pw (-52) = 2 * (vl m e * pw (-53)) := by rw [h53]; grind
  refine ⟨fun h1 => ?_, ?_, ?_, ?_⟩
  · -- the rung below
    by_cases c : -1074 < l ∧ k = 4503599627370496
    · obtain ⟨c1, c2⟩ := c
      have e3 : rg m e - 1 = (l - 1 + 1074).toNat * 4503599627370496 + 9007199254740991 := by rw [hr, c2]; omega
      have e4 := mag_kept (k := 9007199254740991) (l := l - 1) (by omega) (by decide) (by intro _; decide)
      rw [e3, e4]
      have h3 := vl_le (e := l - d) (hnlo c1)
      rw [← hV, vl_pow, show l - (d : Int) + d = l by omega] at h3
      rw [hmr, c2]
      have h6 : vl 9007199254740991 (l - 1) + vl 1 (l - 1) = vl 4503599627370496 l := by
        rw [show l = (l - 1) + ((1 : Nat) : Int) by omega, ← vl_pow]
        rw [show l - 1 + ((1 : Nat) : Int) - 1 = l - 1 by omega]
        unfold vl; push_cast; grind
      have h7 : 0 < vl 1 (l - 1) := by unfold vl; have := pw_pos (l - 1); push_cast; grind
      grind
    · have hk0 : 1 ≤ k := by
        rcases Nat.eq_zero_or_pos k with z | z
        · subst z
          by_cases w : -1074 < l
          · exact absurd (k2 w) (by decide)
          · exfalso; rw [hr] at h1; omega
        · exact z
      have e3 : rg m e - 1 = (l + 1074).toNat * 4503599627370496 + (k - 1) := by rw [hr]; omega
      have e4 := mag_kept (k := k - 1) (l := l) l1 (by omega) (by intro w; have := k2 w; omega)
      rw [e3, e4]
      have h6 : vl (k - 1) l + pw l = vl k l := by
        obtain ⟨k', rfl⟩ : ∃ k', k = k' + 1 := ⟨k - 1, by omega⟩
        rw [Nat.add_sub_cancel]; unfold vl; push_cast; grind
      rw [hmr] at *
      grind
  · have : vl (k + 1) l ≤ mag (rg m e + 1) := by
      by_cases c : k = 9007199254740992
      · have e3 : rg m e + 1 = (l + 1 + 1074).toNat * 4503599627370496 + 4503599627370497 := by rw [hr, c]; omega
        have e4 := mag_kept (k := 4503599627370497) (l := l + 1) (by omega) (by decide) (by intro _; decide)
        rw [e3, e4, c]
        have := vl_pow 4503599627370497 1 l
        rw [show l + ((1 : Nat) : Int) = l + 1 by omega] at this
        rw [← this]
        exact vl_le (by decide)
      · have e3 : rg m e + 1 = (l + 1074).toNat * 4503599627370496 + (k + 1) := by rw [hr]; omega
        have e4 := mag_kept (k := k + 1) (l := l) l1 (by omega) (by intro w; have := k2 w; omega)
        rw [e3, e4]; exact Rat.le_refl
    rw [vk1] at this
    rw [hmr] at *
    grind
  · grind
  · grind
end Go.Proofs.Ytiloleochmdfoaa
