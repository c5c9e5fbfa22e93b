/-
  Plain law: roots of finite words; order of words; powers of two.
-/
import Derived.Test.YtiloleochmdfoaaCxP3
namespace Go.Proofs.Ytiloleochmdfoaa
open Ieee
theorem rootFrom_is (n : Nat) : ∀ (todo root : Nat), root * root ≤ n → n < (root + 2 ^ todo) * (root + 2 ^ todo) → Datum.rootFrom n todo root * Datum.rootFrom n todo root ≤ n ∧ n < (Datum.rootFrom n todo root + 1) * (Datum.rootFrom n todo root + 1)
  | 0, root, h1, h2 => by
    unfold Datum.rootFrom
    exact ⟨h1, by simpa using h2⟩
  | todo + 1, root, h1, h2 => by
    unfold Datum.rootFrom
    simp only
    rw [Nat.one_shiftLeft]
    split
    · rename_i h
      refine rootFrom_is n todo _ h ?_
      rw [show root + 2 ^ todo + 2 ^ todo = root + 2 ^ (todo + 1) by rw [Nat.pow_succ]; omega]
      exact h2
    · rename_i h
      exact rootFrom_is n todo root h1 (by omega)
theorem whole_is (n : Nat) : Datum.rootFrom n (n.log2 / 2 + 1) 0 * Datum.rootFrom n (n.log2 / 2 + 1) 0 ≤ n ∧ n < (Datum.rootFrom n (n.log2 / 2 + 1) 0 + 1) * (Datum.rootFrom n (n.log2 / 2 + 1) 0 + 1) := by
  refine rootFrom_is n _ 0 (by omega) ?_
  rw [Nat.zero_add, ← Nat.pow_add]
  have h : n < 2 ^ (n.log2 + 1) := Nat.lt_log2_self
  exact Nat.lt_of_lt_of_le h (Nat.pow_le_pow_right (by decide) (by omega))
/-- The root of a number from 1 on: near by its square; at least 1. -/
theorem sqrt_wd {a : Nat} (ha : a < 9218868437227405312) (h1 : 1 ≤ mag a) : ∃ r W, double.sqrt (wd false a) = some (wd false (cutI r)) ∧ Rn W r ∧ 1 ≤ W ∧ W * W ≤ mag a + mag a * pw (-51) ∧ mag a ≤ W * W + mag a * pw (-51) := by
  have h0 : a ≠ 0 := by rintro rfl; rw [mag_zero] at h1; grind
  have hm := mant_pos h0
  unfold Format.sqrt
  rw [read_wd ha]
  simp only [Datum.root]
  rw [if_neg hm, if_neg (by decide), show double.fractionBits + 2 = 54 from rfl]
  simp only [Option.map_some, write_num]
  have hl := log2_mant (r := a)
  have hlo : 2 ^ (mant a).log2 ≤ mant a := Nat.log2_self_le hm
  rw [mag_eq a] at h1 ⊢
  generalize mant a = m at *
  generalize plc a = i at *
  generalize hk : 2 * 54 - m.log2 + ((i - ((2 * 54 - m.log2 : Nat) : Int)) % 2).toNat = k
  have hk1 : 108 ≤ k + m.log2 := by omega
  have hev : (i - (k : Int)) % 2 = 0 := by omega
  obtain ⟨e, he⟩ : ∃ e : Int, i - (k : Int) = 2 * e := ⟨(i - (k : Int)) / 2, by omega⟩
  have he2 : (i - (k : Int)) / 2 - 1 = e - 1 := by omega
  rw [he2]
  have hw := whole_is (m <<< k)
  have hbig : 2 ^ 108 ≤ m <<< k := by
    rw [Nat.shiftLeft_eq]
    refine Nat.le_trans ?_ (Nat.mul_le_mul_right _ hlo)
    rw [← Nat.pow_add]
    exact Nat.pow_le_pow_right (by decide) (by omega)
  have hV : vl m i = vl (m <<< k) (2 * e) := by rw [vl_shift]; congr 1; omega
  rw [hV] at h1 ⊢
  generalize m <<< k = n at *
  generalize Datum.rootFrom n (n.log2 / 2 + 1) 0 = c at *
  obtain ⟨w1, w2⟩ := hw
  have hc : 2 ^ 54 ≤ c + 1 := by
    refine Nat.le_of_not_lt fun h => ?_
    have : (c + 1) * (c + 1) ≤ 2 ^ 54 * 2 ^ 54 := Nat.mul_le_mul (Nat.le_of_lt h) (Nat.le_of_lt h)
    rw [← Nat.pow_add] at this
    omega
  have hcc : c * (2 ^ 54 - 1) ≤ c * c := Nat.mul_le_mul_left _ (by omega)
  have hsq : (c + 1) * (c + 1) = c * c + 2 * c + 1 := by rw [Nat.add_mul, Nat.mul_add, Nat.one_mul, Nat.mul_one]; omega
  rw [hsq] at w2
  have hQ : ∃ Q, Q = 2 * c + (c * c != n).toNat := ⟨_, rfl⟩
  obtain ⟨Q, eQ⟩ := hQ
  rw [← eQ]
  have hQ2 : Q * Q * 2 ^ 51 ≤ 4 * n * 2 ^ 51 + 4 * n ∧ 4 * n * 2 ^ 51 ≤ Q * Q * 2 ^ 51 + 4 * n ∧ 2 * c ≤ Q := by
    by_cases z : c * c = n
    · have : Q = 2 * c := by rw [eQ]; simp [z]
      have e2 : Q * Q = 4 * (c * c) := by rw [this, Nat.mul_mul_mul_comm]
      rw [e2, z]
      omega
    · have hb : (c * c != n).toNat = 1 := by simp [z]
      have : Q = 2 * c + 1 := by rw [eQ, hb]
      have e2 : Q * Q = 4 * (c * c) + 4 * c + 1 := by
        rw [this, Nat.add_mul, Nat.mul_add, Nat.one_mul, Nat.mul_one, Nat.mul_mul_mul_comm]; omega
      rw [e2]
      omega
  obtain ⟨g1, g2, g3⟩ := hQ2
  have hh : pw (2 * e) = 4 * (pw (e - 1) * pw (e - 1)) := by
    rw [← pw_add, show 2 * e = (e - 1 + (e - 1)) + 1 + 1 by omega, pw_succ, pw_succ]; grind
  have h51 : pw (-51) * ((2 ^ 51 : Nat) : Rat) = 1 := by rw [← pw_nat, ← pw_add]; rfl
  have hp := pw_pos (e - 1)
  have hpp : 0 ≤ pw (e - 1) * pw (e - 1) * pw (-51) := Rat.mul_nonneg (Rat.mul_nonneg (Rat.le_of_lt hp) (Rat.le_of_lt hp)) (Rat.le_of_lt (pw_pos _))
  refine ⟨_, _, rfl, rn_rg _ _, ?_, ?_, ?_⟩
  · have hq : vl (2 * c) (e - 1) ≤ vl Q (e - 1) := vl_le g3
    have e1 : vl (2 * c) (e - 1) = vl c e := by
      have := vl_pow c 1 (e - 1)
      rw [show e - 1 + ((1 : Nat) : Int) = e by omega, show c * 2 ^ 1 = 2 * c by omega] at this
      exact this
    rw [e1] at hq
    refine Rat.le_trans ?_ hq
    rcases Int.le_total 0 e with s | s
    · have a1 := vl_le (e := e) (show 1 ≤ c by omega)
      have a2 := pw_le s
      have a3 : vl 1 e = pw e := by unfold vl; simp
      have a4 : pw 0 = 1 := rfl
      grind
    · obtain ⟨K, rfl⟩ : ∃ K : Nat, e = -(K : Int) := ⟨(-e).toNat, by omega⟩
      have b1 : 2 ^ (2 * K) ≤ n := by
        refine Nat.le_of_not_lt fun hlt => ?_
        have c1 : (n : Rat) < ((2 ^ (2 * K) : Nat) : Rat) := by exact_mod_cast hlt
        rw [← pw_nat] at c1
        have c2 := Rat.mul_lt_mul_of_pos_right c1 (pw_pos (2 * -(K : Int)))
        rw [← pw_add, show ((2 * K : Nat) : Int) + 2 * -(K : Int) = 0 by omega] at c2
        have c3 : pw 0 = 1 := rfl
        unfold vl at h1
        grind
      have b2 : 2 ^ K ≤ c := by
        refine Nat.le_of_not_lt fun hlt => ?_
        have c1 : (c + 1) * (c + 1) ≤ 2 ^ K * 2 ^ K := Nat.mul_le_mul hlt hlt
        rw [← Nat.pow_add, show K + K = 2 * K by omega, hsq] at c1
        omega
      have a1 := vl_le (e := -(K : Int)) b2
      have a3 : vl (2 ^ K) (-(K : Int)) = 1 := by
        unfold vl
        rw [← pw_nat, ← pw_add, Int.add_right_neg]; rfl
      rw [a3] at a1
      exact a1
  · have c1 := Rat.mul_le_mul_of_nonneg_right (cast_le g1) hpp
    unfold vl
    rw [hh]
    push_cast at c1 h51
    generalize pw (e - 1) = h at *
    generalize pw (-51) = E at *
    generalize (Q : Rat) = q at *
    generalize (n : Rat) = m' at *
    have k1 : q * q * 2251799813685248 * (h * h * E) = q * h * (q * h) * (E * 2251799813685248) := by grind
    have k2 : (4 * m' * 2251799813685248 + 4 * m') * (h * h * E) = m' * (4 * (h * h)) * (E * 2251799813685248) + m' * (4 * (h * h)) * E := by grind
    have k3 : 4 * m' * 2251799813685248 * (h * h * E) = m' * (4 * (h * h)) * (E * 2251799813685248) := by grind
    have k4 : (q * q * 2251799813685248 + 4 * m') * (h * h * E) = q * h * (q * h) * (E * 2251799813685248) + m' * (4 * (h * h)) * E := by grind
    rw [h51, Rat.mul_one] at k1 k2 k3 k4
    rw [k1, k2] at c1
    exact c1
  · have c1 := Rat.mul_le_mul_of_nonneg_right (cast_le g2) hpp
    unfold vl
    rw [hh]
    push_cast at c1 h51
    generalize pw (e - 1) = h at *
    generalize pw (-51) = E at *
    generalize (Q : Rat) = q at *
    generalize (n : Rat) = m' at *
    have k1 : q * q * 2251799813685248 * (h * h * E) = q * h * (q * h) * (E * 2251799813685248) := by grind
    have k2 : (4 * m' * 2251799813685248 + 4 * m') * (h * h * E) = m' * (4 * (h * h)) * (E * 2251799813685248) + m' * (4 * (h * h)) * E := by grind
    have k3 : 4 * m' * 2251799813685248 * (h * h * E) = m' * (4 * (h * h)) * (E * 2251799813685248) := by grind
    have k4 : (q * q * 2251799813685248 + 4 * m') * (h * h * E) = q * h * (q * h) * (E * 2251799813685248) + m' * (4 * (h * h)) * E := by grind
    rw [h51, Rat.mul_one] at k1 k2 k3 k4
    rw [k3, k4] at c1
    exact c1
end Go.Proofs.Ytiloleochmdfoaa
