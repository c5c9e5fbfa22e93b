/-
  Plain law: a number times a power of two has the same unit.
-/
import Derived.Test.YtiloleochmdfoaaCxP7
namespace Go.Proofs.Ytiloleochmdfoaa
open Ieee
/-- A rung times a power of two. -/
def sh (n : Int) (X : Nat) : Nat := if X = 0 then 0 else ((X : Int) + n * 4503599627370496).toNat
/-- Neither small nor great. -/
def Mid (X : Nat) : Prop := X = 0 ∨ (2805742567851819008 ≤ X ∧ X ≤ 6408622269748215808)
theorem sh_of {n : Int} {X : Nat} (hn : -300 ≤ n ∧ n ≤ 300) (h : 2805742567851819008 ≤ X ∧ X ≤ 6408622269748215808) : ((sh n X : Nat) : Int) = X + n * 4503599627370496 := by
  unfold sh; rw [if_neg (by omega)]; omega
theorem sh_zero (n : Int) : sh n 0 = 0 := rfl
theorem wd_inj {s : Bool} {a b : Nat} (h : wd s a = wd s b) : a = b := by
  rw [wd_eq, wd_eq] at h; cases s <;> simp at h <;> omega
theorem sh_mul {s : Bool} {n : Int} {X : Nat} (hn : -300 ≤ n ∧ n ≤ 300) (h : Mid X) : double.mul (wd false (pr n)) (wd s X) = some (wd s (sh n X)) := by
  rcases h with rfl | h
  · rw [sh_zero]; exact mul_pow_zero (by omega)
  · have e := sh_of hn h
    exact mul_pow (by omega) (by omega) (by omega) (by omega) (by omega) e
theorem div_shift {s : Bool} {n : Int} {X m m1 u : Nat} (hn : -300 ≤ n ∧ n ≤ 300) (hX : Mid X) (hm : 4503599627370496 ≤ m) (hm2 : m < 9218868437227405312) (h1 : 4503599627370496 ≤ m1) (h2 : m1 < 9218868437227405312) (e : (m1 : Int) = m + n * 4503599627370496)
    (hu : double.div (wd s X) (wd false m) = some (wd s u)) : double.div (wd s (sh n X)) (wd false m1) = some (wd s u) ∧ (mant (sh n X) = mant X ∧ (mant X ≠ 0 → plc (sh n X) - plc m1 = plc X - plc m) ∧ mant m1 = mant m) := by
  obtain ⟨k1, k2⟩ := norm_shift hm h1 e
  have hx : mant (sh n X) = mant X ∧ (mant X ≠ 0 → plc (sh n X) - plc m1 = plc X - plc m) := by
    rcases hX with rfl | h
    · exact ⟨rfl, fun h => absurd rfl h⟩
    · have e := sh_of hn h
      obtain ⟨j1, j2⟩ := norm_shift (r := X) (r' := sh n X) (k := n) (by omega) (by omega) e
      exact ⟨j1, fun _ => by omega⟩
  have hXl : X < 9218868437227405312 := by rcases hX with rfl | h <;> omega
  have hSl : sh n X < 9218868437227405312 := by
    rcases hX with rfl | h
    · rw [sh_zero]; decide
    · have := sh_of hn h; omega
  obtain ⟨r0, _, d0, _, _, _, _, f0⟩ := div_wd (s := s) (t := false) hXl hm2 (by omega)
  obtain ⟨r1, _, d1, _, _, _, _, f1⟩ := div_wd (s := s) (t := false) hSl h2 (show m1 ≠ 0 by omega)
  have hr : r1 = r0 := by
    rw [f0, f1, hx.1, k1]
    by_cases z : mant X = 0
    · rw [if_pos z, if_pos z]
    · rw [if_neg z, if_neg z, hx.2 z]
  refine ⟨?_, hx.1, hx.2, k1⟩
  rw [d1, hr, ← d0, hu]
theorem max_sh {n : Int} {X Y : Nat} (hn : -300 ≤ n ∧ n ≤ 300) (hX : Mid X) (hY : Mid Y) : max (sh n X) (sh n Y) = sh n (max X Y) ∧ min (sh n X) (sh n Y) = sh n (min X Y) := by
  rcases hX with rfl | hX <;> rcases hY with rfl | hY
  · exact ⟨rfl, rfl⟩
  · have := sh_of hn hY
    rw [Nat.max_eq_right (show 0 ≤ Y by omega), Nat.min_eq_left (show 0 ≤ Y by omega), sh_zero]
    exact ⟨Nat.max_eq_right (Nat.zero_le _), Nat.min_eq_left (Nat.zero_le _)⟩
  · have := sh_of hn hX
    rw [Nat.max_eq_left (show 0 ≤ X by omega), Nat.min_eq_right (show 0 ≤ X by omega), sh_zero]
    exact ⟨Nat.max_eq_left (Nat.zero_le _), Nat.min_eq_right (Nat.zero_le _)⟩
  · have a := sh_of hn hX; have b := sh_of hn hY
    rcases Nat.le_total X Y with c | c
    · rw [Nat.max_eq_right c, Nat.min_eq_left c]
      exact ⟨Nat.max_eq_right (by omega), Nat.min_eq_left (by omega)⟩
    · rw [Nat.max_eq_left c, Nat.min_eq_right c]
      exact ⟨Nat.max_eq_left (by omega), Nat.min_eq_right (by omega)⟩
theorem mid_max {X Y : Nat} (hX : Mid X) (hY : Mid Y) : Mid (max X Y) ∧ Mid (min X Y) := by
  rcases Nat.le_total X Y with c | c
  · rw [Nat.max_eq_right c, Nat.min_eq_left c]; exact ⟨hY, hX⟩
  · rw [Nat.max_eq_left c, Nat.min_eq_right c]; exact ⟨hX, hY⟩
theorem mag_sh {n : Int} {X : Nat} (hn : -300 ≤ n ∧ n ≤ 300) (h : Mid X) : mag (sh n X) = pw n * mag X := by
  rcases h with rfl | h
  · rw [sh_zero, mag_zero, Rat.mul_zero]
  · have e := sh_of hn h
    exact mag_shift (by omega) (by omega) e
/-- The same unit. -/
theorem unit_shift {sa sb : Bool} {X Y t tt s1 q m U V : Nat} {r : Rat} {n : Int} (h : UOf sa sb X Y t tt s1 q m U V r) (hn : -300 ≤ n ∧ n ≤ 300) (hX : Mid X) (hY : Mid Y) (h0 : max X Y ≠ 0) :
    ∃ m1, UOf sa sb (sh n X) (sh n Y) t tt s1 q m1 U V r ∧ double.mul (wd false (pr n)) (wd false m) = some (wd false m1) := by
  obtain ⟨e1, e2⟩ := max_sh hn hX hY
  obtain ⟨gM, gN⟩ := mid_max hX hY
  have Q := h.qo
  have hM : 2805742567851819008 ≤ max X Y ∧ max X Y ≤ 6408622269748215808 := by
    rcases gM with z | z
    · exact absurd z h0
    · exact z
  have eM := sh_of hn hM
  obtain ⟨m', em', mge, er', _, mfin, _⟩ := mag_of Q (by omega) h0
  have p1000 : pr 1000 = 9110782046170513408 := by decide
  have lm' := mfin (by omega)
  have hmm : m' = m := by
    rw [cut_id lm', h.em] at em'
    exact (wd_inj (Option.some.inj em')).symm
  subst hmm
  -- the magnitude's rung
  have q1 : pr 0 ≤ q := mag_le_iff.1 (by rw [mag_one']; exact Q.q1)
  have q2 : q ≤ rhalf := mag_le_iff.1 (by rw [mag_rhalf]; exact Q.q2)
  have pr0 : pr 0 = 4607182418800017408 := by decide
  unfold rhalf at q2
  have pq : plc q = -52 := by unfold plc; rw [if_neg (by omega)]; omega
  have mq : 4503599627370496 ≤ mant q := by unfold mant; rw [if_neg (by omega)]; omega
  obtain ⟨kM1, kM2⟩ := norm_shift (r := max X Y) (r' := sh n (max X Y)) (k := n) (by omega) (by omega) eM
  have mM : 4503599627370496 ≤ mant (max X Y) := by unfold mant; rw [if_neg (by omega)]; omega
  have pM : -452 ≤ plc (max X Y) := by unfold plc; rw [if_neg (by omega)]; omega
  have hlog : 104 ≤ (mant (max X Y) * mant q).log2 := by
    have hp : 4503599627370496 * 4503599627370496 ≤ mant (max X Y) * mant q := Nat.mul_le_mul mM mq
    refine (Nat.le_log2 (by omega)).2 ?_
    exact hp
  have hne : mant (max X Y) * mant q ≠ 0 := by
    have hp : 4503599627370496 * 4503599627370496 ≤ mant (max X Y) * mant q := Nat.mul_le_mul mM mq
    omega
  have hm1 := rg_shift (m := mant (max X Y) * mant q) (e := plc (max X Y) + plc q) (k := n) hne (by omega) (by omega)
  rw [← er'] at hm1
  obtain ⟨m1, em1⟩ : ∃ m1, m1 = rg (mant (max X Y) * mant q) (plc (max X Y) + plc q + n) := ⟨_, rfl⟩
  rw [← em1] at hm1
  have hlM : sh n (max X Y) < 9218868437227405312 := by omega
  obtain ⟨m2, f1, f2, f3⟩ := mul_wd (s := false) (t := false) hlM Q.lq
  have hm2 : m2 = m1 := by rw [f3, em1, kM1, kM2]; congr 1; omega
  subst hm2
  -- Q at the scaled parts
  have hdiv : double.div (wd false (min (sh n X) (sh n Y))) (wd false (max (sh n X) (sh n Y))) = some (wd false t) := by
    rw [e1, e2]
    exact (div_shift hn gN (by omega) (by omega) (by omega) hlM eM Q.e1).1
  have hrm : r * mag (max (sh n X) (sh n Y)) = mag (min (sh n X) (sh n Y)) := by
    rw [e1, e2, mag_sh hn gM, mag_sh hn gN, ← Q.rm]; grind
  have Q1 : QOf (max (sh n X) (sh n Y)) (min (sh n X) (sh n Y)) t tt s1 q r := ⟨Q.lt, Q.ltt, Q.ls, Q.lq, hdiv, Q.e2, Q.e3, Q.e4, hrm, Q.r0, Q.r1, Q.q1, Q.q2, Q.near, Q.small⟩
  obtain ⟨m3, em3, mge3, er3, _, mfin3, _⟩ := mag_of Q1 (by rw [e1]; exact hlM) (by rw [e1]; omega)
  have lm3 := mfin3 (by rw [e1, p1000]; omega)
  have h31 : m3 = m2 := by rw [er3, f3, e1]
  subst h31
  rw [e1] at em3 mge3
  rw [cut_id lm3] at em3
  have hm3 : 4503599627370496 ≤ m3 := by omega
  have hmn : 4503599627370496 ≤ m' := by omega
  obtain ⟨u1, u2, u3, u4⟩ := div_shift (s := sa) hn hX hmn lm' hm3 lm3 hm1 h.eU
  obtain ⟨v1, v2, v3, v4⟩ := div_shift (s := sb) hn hY hmn lm' hm3 lm3 hm1 h.eV
  refine ⟨m3, ⟨Q1, lm3, by omega, by rw [e1]; exact em3, er3, h.lU, h.lV, u1, v1, ?_, ?_, h.near⟩, mul_pow (by omega) hmn lm' hm3 lm3 hm1⟩
  · rw [u2, u4, h.rU]
    by_cases z : mant X = 0
    · rw [if_pos z, if_pos z]
    · rw [if_neg z, if_neg z, u3 z]
  · rw [v2, v4, h.rV]
    by_cases z : mant Y = 0
    · rw [if_pos z, if_pos z]
    · rw [if_neg z, if_neg z, v3 z]
end Go.Proofs.Ytiloleochmdfoaa
