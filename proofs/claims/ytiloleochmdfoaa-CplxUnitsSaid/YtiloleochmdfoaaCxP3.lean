/-
  Plain law: sums, quotients and roots of finite words, by their magnitudes.
-/
import Derived.Test.YtiloleochmdfoaaCxP2
namespace Go.Proofs.Ytiloleochmdfoaa
open Ieee
/-- A number with its sign. -/
def sv (s : Bool) (v : Rat) : Rat := if s then -v else v
theorem icast (m : Nat) : ((m : Int) : Rat) = (m : Rat) := rfl
theorem signed_cast (s : Bool) (m k : Nat) : ((signed s m k : Int) : Rat) = sv s ((m : Rat) * pw (k : Int)) := by
  unfold signed sv
  rw [pw_nat, Nat.shiftLeft_eq]
  cases s
  · show (((m * 2 ^ k : Nat) : Int) : Rat) = (m : Rat) * ((2 ^ k : Nat) : Rat)
    rw [icast]; push_cast; rfl
  · show ((-((m * 2 ^ k : Nat) : Int) : Int) : Rat) = -((m : Rat) * ((2 ^ k : Nat) : Rat))
    rw [Rat.intCast_neg, icast]; push_cast; rfl
theorem natAbs_cast (x : Int) : ((x.natAbs : Nat) : Rat) = (x : Rat) ∨ ((x.natAbs : Nat) : Rat) = -(x : Rat) := by
  rcases Int.natAbs_eq x with h | h
  · left
    rw [← icast, ← h]
  · right
    have h2 : ((x.natAbs : Nat) : Int) = -x := by omega
    rw [← icast, h2, Rat.intCast_neg]
theorem sum_sv {s t : Bool} {m n : Nat} {i j : Int} : ((signed s m (i - min i j).toNat + signed t n (j - min i j).toNat : Int) : Rat) * pw (min i j) = sv s (vl m i) + sv t (vl n j) := by
  rw [Rat.intCast_add, signed_cast, signed_cast]
  have h1 : pw ((i - min i j).toNat : Int) * pw (min i j) = pw i := by rw [← pw_add]; congr 1; omega
  have h2 : pw ((j - min i j).toNat : Int) * pw (min i j) = pw j := by rw [← pw_add]; congr 1; omega
  unfold sv vl
  cases s <;> cases t <;> simp <;> grind
/-- What is known of a sum: its rung. -/
theorem add_wd {s t : Bool} {a b : Nat} (ha : a < 9218868437227405312) (hb : b < 9218868437227405312) : ∃ r V sg, double.add (wd s a) (wd t b) = some (wd sg (cutI r)) ∧ Rn V r ∧ 0 ≤ V ∧ (V = sv s (mag a) + sv t (mag b) ∨ V = -(sv s (mag a) + sv t (mag b))) := by
  unfold Format.add
  rw [read_wd ha, read_wd hb]
  simp only [Datum.sum, Option.map_some, write_num]
  refine ⟨_, _, _, rfl, rn_rg _ _, ?_, ?_⟩
  · unfold vl
    exact Rat.mul_nonneg (by exact_mod_cast Nat.zero_le _) (Rat.le_of_lt (pw_pos _))
  · have h := sum_sv (s := s) (t := t) (m := mant a) (n := mant b) (i := plc a) (j := plc b)
    rw [← mag_eq, ← mag_eq] at h
    rcases natAbs_cast (signed s (mant a) (plc a - min (plc a) (plc b)).toNat + signed t (mant b) (plc b - min (plc a) (plc b)).toNat) with e | e
    · left; unfold vl; rw [e]; exact h
    · right; unfold vl; rw [e, ← h]; grind
theorem add_pos {a b : Nat} (ha : a < 9218868437227405312) (hb : b < 9218868437227405312) : ∃ r, double.add (wd false a) (wd false b) = some (wd false (cutI r)) ∧ Rn (mag a + mag b) r := by
  unfold Format.add
  rw [read_wd ha, read_wd hb]
  simp only [Datum.sum, Option.map_some, write_num]
  have h := sum_sv (s := false) (t := false) (m := mant a) (n := mant b) (i := plc a) (j := plc b)
  rw [← mag_eq, ← mag_eq] at h
  have hn : 0 ≤ signed false (mant a) (plc a - min (plc a) (plc b)).toNat + signed false (mant b) (plc b - min (plc a) (plc b)).toNat := by
    exact Int.add_nonneg (Int.natCast_nonneg _) (Int.natCast_nonneg _)
  generalize signed false (mant a) (plc a - min (plc a) (plc b)).toNat + signed false (mant b) (plc b - min (plc a) (plc b)).toNat = x at h hn
  have hx : ((x.natAbs : Nat) : Rat) = (x : Rat) := by
    have h2 : ((x.natAbs : Nat) : Int) = x := by omega
    rw [← icast, h2]
  refine ⟨rg x.natAbs (min (plc a) (plc b)), ?_, ?_⟩
  · have : (if x = 0 then false && false else decide (x < 0)) = false := by
      split
      · rfl
      · exact decide_eq_false (by omega)
    rw [this]
  · have := rn_rg x.natAbs (min (plc a) (plc b))
    unfold vl at this
    rw [hx] at this
    rw [h] at this
    exact this
/-- The quotient's digits and its place. -/
def qm (m n : Nat) : Nat := 2 * (m <<< (54 + n.log2 - m.log2) / n) + (m <<< (54 + n.log2 - m.log2) % n != 0).toNat
def qe (m n : Nat) : Int := -((54 + n.log2 - m.log2 : Nat) : Int) - 1
theorem qm_near {m n : Nat} (hm : m ≠ 0) (hn : n ≠ 0) (hl : m.log2 ≤ 53) : (qm m n : Rat) * n * pw (qe m n) ≤ m + m * pw (-54) ∧ (m : Rat) ≤ (qm m n : Rat) * n * pw (qe m n) + m * pw (-54) := by
  have hk : ((54 + n.log2 - m.log2 : Nat) : Int) = 54 + n.log2 - m.log2 := by omega
  unfold qm qe
  generalize hK : 54 + n.log2 - m.log2 = k at hk ⊢
  have hD : m <<< k = m * 2 ^ k := Nat.shiftLeft_eq _ _
  have hmlo : 2 ^ m.log2 ≤ m := Nat.log2_self_le hm
  have hnhi : n < 2 ^ (n.log2 + 1) := Nat.lt_log2_self
  have hbig : n * 2 ^ 53 ≤ m <<< k := by
    rw [hD]
    have h1 : 2 ^ m.log2 * 2 ^ k ≤ m * 2 ^ k := Nat.mul_le_mul_right _ hmlo
    have h2 : n * 2 ^ 53 ≤ 2 ^ (n.log2 + 1) * 2 ^ 53 := Nat.mul_le_mul_right _ (Nat.le_of_lt hnhi)
    rw [← Nat.pow_add] at h1 h2
    rw [show m.log2 + k = n.log2 + 1 + 53 by omega] at h1
    omega
  have hdm := Nat.div_add_mod (m <<< k) n
  have hml := Nat.mod_lt (m <<< k) (Nat.pos_iff_ne_zero.2 hn)
  have hcast : ((m <<< k : Nat) : Rat) * pw (-(k : Int)) = m := by
    rw [hD]; push_cast
    have e1 : pw (k : Int) * pw (-(k : Int)) = 1 := by rw [← pw_add, Int.add_right_neg]; rfl
    have e2 : pw (k : Int) = (2 : Rat) ^ k := by rw [pw_nat]; push_cast; rfl
    rw [e2] at e1
    grind
  have hp1 : pw (-(k : Int) - 1) * 2 = pw (-(k : Int)) := by
    rw [Rat.mul_comm, ← pw_succ]; congr 1; omega
  have hpp := pw_pos (-(k : Int) - 1)
  -- the error is n times a unit at most
  have hq : (2 * (m <<< k / n) + (m <<< k % n != 0).toNat) * n ≤ 2 * (m <<< k) + n ∧ 2 * (m <<< k) ≤ (2 * (m <<< k / n) + (m <<< k % n != 0).toNat) * n + n := by
    generalize m <<< k / n = c at *
    generalize hs : m <<< k % n = s at *
    have e : (2 * c + (s != 0).toNat) * n = 2 * (n * c) + (s != 0).toNat * n := by rw [Nat.add_mul, Nat.mul_assoc, Nat.mul_comm c n]
    rw [e]
    by_cases z : s = 0
    · subst z; simp; omega
    · have : (s != 0) = true := by simp [z]
      rw [this]; simp; omega
  obtain ⟨q1, q2⟩ := hq
  generalize 2 * (m <<< k / n) + (m <<< k % n != 0).toNat = QN at q1 q2 ⊢
  have q1' := cast_le q1
  have q2' := cast_le q2
  have b' := cast_le hbig
  have h54 : pw 53 * pw (-54) * 2 = 1 := by rw [← pw_add]; show pw (-1) * 2 = 1; rw [Rat.mul_comm, ← pw_succ]; rfl
  have e53 : ((2 ^ 53 : Nat) : Rat) = pw 53 := (pw_nat 53).symm
  push_cast at q1' q2' b'
  generalize (QN : Rat) = Q at *
  have hb2 : (n : Rat) * pw 53 ≤ ((m <<< k : Nat) : Rat) := by rw [← e53]; push_cast; exact b'
  generalize ((m <<< k : Nat) : Rat) = D at *
  generalize (pw (-(k : Int) - 1)) = u at *
  generalize pw (-(k : Int)) = P at *
  have hE := pw_pos (-54)
  generalize pw (-54) = E at *
  have a1 := Rat.mul_le_mul_of_nonneg_right q1' (Rat.le_of_lt hpp)
  have a2 := Rat.mul_le_mul_of_nonneg_right q2' (Rat.le_of_lt hpp)
  have a3 := Rat.mul_le_mul_of_nonneg_right hb2 (Rat.le_of_lt hE)
  have a4 : (n : Rat) ≤ 2 * (D * E) := by
    have : (n : Rat) * pw 53 * E * 2 = n := by rw [Rat.mul_assoc, Rat.mul_assoc, ← Rat.mul_assoc (pw 53), h54, Rat.mul_one]
    grind
  have a5 := Rat.mul_le_mul_of_nonneg_right a4 (Rat.le_of_lt hpp)
  have a6 : 2 * (D * E) * u = (m : Rat) * E := by rw [← hcast, ← hp1]; grind
  have a7 : 2 * D * u = (m : Rat) := by rw [← hcast, ← hp1]; grind
  constructor <;> grind

theorem log2_mant {r : Nat} : (mant r).log2 ≤ 53 := by
  by_cases h : mant r = 0
  · rw [h]; decide
  · have := (Nat.log2_lt h (k := 53)).2 (mant_lt r); omega
theorem div_near (a : Nat) {b : Nat} (hb0 : b ≠ 0) : vl (qm (mant a) (mant b)) (plc a - plc b + qe (mant a) (mant b)) * mag b ≤ mag a + mag a * pw (-54) ∧ mag a ≤ vl (qm (mant a) (mant b)) (plc a - plc b + qe (mant a) (mant b)) * mag b + mag a * pw (-54) := by
  have hn := mant_pos hb0
  have hl := log2_mant (r := a)
  rw [mag_eq a, mag_eq b]
  generalize mant a = m at *
  generalize mant b = n at *
  generalize plc a = i
  generalize plc b = j
  have e : vl (qm m n) (i - j + qe m n) * vl n j = (qm m n : Rat) * n * pw (qe m n) * pw i := by
    unfold vl
    have : pw (i - j + qe m n) * pw j = pw (qe m n) * pw i := by rw [← pw_add, ← pw_add]; congr 1; omega
    grind
  rw [e]
  have hp := pw_pos i
  by_cases hm : m = 0
  · subst hm
    have : qm 0 n = 0 := by unfold qm; simp
    rw [this]
    have v0 : vl 0 i = 0 := by unfold vl; simp
    rw [v0]
    simp
    grind
  · obtain ⟨h1, h2⟩ := qm_near hm hn hl
    have k1 := Rat.mul_le_mul_of_nonneg_right h1 (Rat.le_of_lt hp)
    have k2 := Rat.mul_le_mul_of_nonneg_right h2 (Rat.le_of_lt hp)
    generalize (qm m n : Rat) * n * pw (qe m n) = X at *
    unfold vl
    constructor <;> grind
theorem div_wd {s t : Bool} {a b : Nat} (ha : a < 9218868437227405312) (hb : b < 9218868437227405312) (hb0 : b ≠ 0) : ∃ r W, double.div (wd s a) (wd t b) = some (wd (s ^^ t) (cutI r)) ∧ Rn W r ∧ 0 ≤ W ∧ W * mag b ≤ mag a + mag a * pw (-54) ∧ mag a ≤ W * mag b + mag a * pw (-54) ∧
    r = (if mant a = 0 then 0 else rg (qm (mant a) (mant b)) (plc a - plc b + qe (mant a) (mant b))) := by
  have hn := mant_pos hb0
  unfold Format.div
  rw [read_wd ha, read_wd hb]
  simp only [Datum.quotient]
  rw [if_neg hn, show double.fractionBits + 2 = 54 from rfl]
  simp only [Option.map_some, write_num]
  have hp : plc a - plc b - ((54 + (mant b).log2 - (mant a).log2 : Nat) : Int) - 1 = plc a - plc b + qe (mant a) (mant b) := by unfold qe; omega
  rw [hp]
  refine ⟨rg (qm (mant a) (mant b)) (plc a - plc b + qe (mant a) (mant b)), vl (qm (mant a) (mant b)) (plc a - plc b + qe (mant a) (mant b)), rfl, rn_rg _ _, ?_, ?_, ?_, ?_⟩
  · unfold vl
    exact Rat.mul_nonneg (by exact_mod_cast Nat.zero_le _) (Rat.le_of_lt (pw_pos _))
  · exact (div_near a hb0).1
  · exact (div_near a hb0).2
  · by_cases z : mant a = 0
    · rw [if_pos z, z]
      have : qm 0 (mant b) = 0 := by unfold qm; simp
      rw [this]; rfl
    · rw [if_neg z]
end Go.Proofs.Ytiloleochmdfoaa
