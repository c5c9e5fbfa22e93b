/-
  Plain law: times 1, plus nought: exact.
-/
import Derived.Test.YtiloleochmdfoaaCxK
namespace Go.Proofs.Ytiloleochmdfoaa
open Go.RowKit
attribute [local irreducible] World.setCell

set_option linter.unusedSimpArgs false
set_option linter.unusedVariables false

theorem log2_up {m : Nat} (hm : m ≠ 0) (k : Nat) : (m * 2 ^ k).log2 = m.log2 + k := by
  have h1 := (Nat.log2_eq_iff hm).1 rfl
  refine (Nat.log2_eq_iff (Nat.mul_ne_zero hm (Nat.pos_iff_ne_zero.1 (Nat.two_pow_pos k)))).2 ⟨?_, ?_⟩
  · rw [Nat.pow_add]; exact Nat.mul_le_mul_right _ h1.1
  · rw [show m.log2 + k + 1 = m.log2 + 1 + k by omega, Nat.pow_add]; exact Nat.mul_lt_mul_of_pos_right h1.2 (Nat.two_pow_pos k)
theorem cut_exact (s : Bool) {m : Nat} (hm : m ≠ 0) (k : Nat) : Ieee.Toward.even.cut s (m * 2 ^ k) k = m := by
  have hl := log2_up hm k
  unfold Ieee.Toward.cut
  rw [hl, Nat.min_eq_left (by omega), Nat.one_shiftLeft]
  show m * 2 ^ k / 2 ^ k + (decide (2 ^ k < 2 * (m * 2 ^ k % 2 ^ k)) || (2 ^ k == 2 * (m * 2 ^ k % 2 ^ k)) && (m * 2 ^ k / 2 ^ k % 2 == 1)).toNat = m
  rw [Nat.mul_div_cancel _ (Nat.two_pow_pos k), Nat.mul_mod_left]
  have hp := Nat.two_pow_pos k
  have e1 : decide (2 ^ k < 2 * 0) = false := decide_eq_false (by omega)
  have e2 : (2 ^ k == 2 * 0) = false := by rw [beq_eq_false_iff_ne]; omega
  rw [e1, e2]; rfl
/-- The parts of a finite number other than nought. -/
theorem parts {x : Nat} (hx : x < 18446744073709551616) (hf : x % 9223372036854775808 < 9218868437227405312) (h0 : x % 9223372036854775808 ≠ 0) : ∃ s m i, Ieee.double.read x = .number s m i ∧ m ≠ 0 ∧ (-1074) ≤ i ∧ i + m.log2 - 52 ≤ i ∧ (i + m.log2 - 52 = i ∨ i = -1074) ∧
    Ieee.double.word s (min ((i - (-1074)).toNat * 4503599627370496 + m) 9218868437227405312) = x := by
  have hw : ∀ s : Bool, (x / 9223372036854775808 % 2 == 1) = s → Ieee.double.word s (x % 9223372036854775808) = x := by
    intro s hs
    unfold Ieee.Format.word
    rw [show Ieee.double.signWeight = 9223372036854775808 from rfl]
    cases s
    · have : ¬ x / 9223372036854775808 % 2 = 1 := by simpa using hs
      simp; omega
    · have : x / 9223372036854775808 % 2 = 1 := by simpa using hs
      simp; omega
  unfold Ieee.Format.read
  rw [show Ieee.double.signWeight = 9223372036854775808 from rfl, show Ieee.double.binade = 4503599627370496 from rfl, show Ieee.double.infRung = 9218868437227405312 from rfl, show Ieee.double.leastPlace = -1074 from rfl]
  simp only
  by_cases hb : x % 9223372036854775808 < 4503599627370496
  · rw [if_pos hb]
    refine ⟨_, _, _, rfl, h0, by omega, ?_, .inr rfl, ?_⟩
    · have := (Nat.log2_lt h0 (k := 52)).2 (by omega)
      omega
    · rw [show ((-1074 : Int) - -1074).toNat = 0 by omega, Nat.zero_mul, Nat.zero_add, Nat.min_eq_left (by omega)]
      exact hw _ rfl
  · rw [if_neg hb, if_pos hf]
    have hl : (4503599627370496 + x % 9223372036854775808 % 4503599627370496).log2 = 52 := (Nat.log2_eq_iff (by omega)).2 ⟨by omega, by omega⟩
    refine ⟨_, _, _, rfl, by omega, by omega, by omega, .inl (by omega), ?_⟩
    have hq : 1 ≤ x % 9223372036854775808 / 4503599627370496 := by omega
    have he : (-1074 + ((x % 9223372036854775808 / 4503599627370496 - 1 : Nat) : Int) - -1074).toNat = x % 9223372036854775808 / 4503599627370496 - 1 := by omega
    rw [he]
    have hr : (x % 9223372036854775808 / 4503599627370496 - 1) * 4503599627370496 + (4503599627370496 + x % 9223372036854775808 % 4503599627370496) = x % 9223372036854775808 := by omega
    rw [hr, Nat.min_eq_left (by omega)]
    exact hw _ rfl
theorem nearest_exact {x : Nat} {s : Bool} {m : Nat} {i : Int} (hm : m ≠ 0) (h1 : (-1074) ≤ i) (h2 : i + m.log2 - 52 ≤ i) (h3 : i + m.log2 - 52 = i ∨ i = -1074) (h4 : Ieee.double.word s (min ((i - (-1074)).toNat * 4503599627370496 + m) 9218868437227405312) = x) (k : Nat) :
    Ieee.double.write (.number s (m * 2 ^ k) (i - k)) = x := by
  show Ieee.double.nearest s (m * 2 ^ k) (i - k) = x
  unfold Ieee.Format.nearest
  rw [if_neg (Nat.mul_ne_zero hm (Nat.pos_iff_ne_zero.1 (Nat.two_pow_pos k)))]
  rw [log2_up hm, show Ieee.double.binade = 4503599627370496 from rfl, show Ieee.double.infRung = 9218868437227405312 from rfl, show Ieee.double.leastPlace = -1074 from rfl, show Ieee.double.fractionBits = 52 from rfl]
  have hlast : max (i - (k : Int) + ((m.log2 + k : Nat) : Int) - ((52 : Nat) : Int)) (-1074) = i := by omega
  simp only [hlast]
  rw [show (i - (k : Int) - i).toNat = 0 by omega, show (i - (i - (k : Int))).toNat = k by omega, Nat.shiftLeft_zero, cut_exact s hm]
  exact h4
/-- A finite number. -/
def finX (x : Nat) : Prop := x < 18446744073709551616 ∧ x % 9223372036854775808 < 9218868437227405312
theorem finX.nan {x : Nat} (h : finX x) : isN x = false := by unfold isN; have := h.2; simp; omega
theorem finX.ng {x : Nat} (h : finX x) : finX (ng x) := ⟨ng_lt h.1, by rw [ng_mod]; exact h.2⟩
theorem zero_of {x : Nat} (hx : x < 18446744073709551616) (h : x % 9223372036854775808 = 0) : zr (some x) := by
  rcases (by omega : x = 0 ∨ x = 9223372036854775808) with rfl | rfl
  · exact .inl rfl
  · exact .inr rfl
theorem read_one : Ieee.double.read 4607182418800017408 = .number false 4503599627370496 (-52) := by decide +kernel
theorem mul_one' {x : Nat} (h : finX x) : fop .mul (some x) (some 4607182418800017408) = some x := by
  rw [fmul_def, read_one]
  by_cases h0 : x % 9223372036854775808 = 0
  · rcases (by have := h.1; omega : x = 0 ∨ x = 9223372036854775808) with rfl | rfl <;> decide +kernel
  · obtain ⟨s, m, i, e, h1, h2, h3, h4, h5⟩ := parts h.1 h.2 h0
    rw [e]
    have := nearest_exact h1 h2 h3 h4 h5 52
    simp only [Ieee.Datum.product, Bool.xor_false, Option.map]
    rw [show i + -52 = i - ((52 : Nat) : Int) by omega]
    exact congrArg some this
theorem mul_zero' {x : Nat} (h : finX x) : zr (fop .mul (some x) (some 0)) := by
  rw [fmul_def]
  by_cases h0 : x % 9223372036854775808 = 0
  · rcases (by have := h.1; omega : x = 0 ∨ x = 9223372036854775808) with rfl | rfl
    · exact .inl (by decide +kernel)
    · exact .inr (by decide +kernel)
  · obtain ⟨s, m, i, e, _⟩ := parts h.1 h.2 h0
    rw [e, show Ieee.double.read 0 = .number false 0 (-1074) by decide +kernel]
    simp only [Ieee.Datum.product, Nat.mul_zero]
    exact wz _ _
theorem add_zero' {o : Option Nat} (hz : zr o) {x : Nat} (h : finX x) : RZ (fop .add o (some x)) (some x) := by
  obtain ⟨a, s, rfl, ea⟩ := read_zr hz
  by_cases h0 : x % 9223372036854775808 = 0
  · have hx := zero_of h.1 h0
    obtain ⟨b, t, eb, rb⟩ := read_zr hx
    cases eb
    rw [fadd_def, ea, rb]
    simp only [Ieee.Datum.sum, sg0]
    exact .inr ⟨wz _ _, hx⟩
  · obtain ⟨t, n, j, e, h1, h2, h3, h4, h5⟩ := parts h.1 h.2 h0
    rw [fadd_def, ea, e]
    have hmin : min (-1074) j = -1074 := by omega
    simp only [Ieee.Datum.sum, sg0, Int.zero_add, hmin]
    obtain ⟨k, hk⟩ : ∃ k : Nat, j - (-1074) = k := ⟨(j - (-1074)).toNat, by omega⟩
    have hkk : (j - (-1074)).toNat = k := by omega
    rw [hkk]
    have hpos : 0 < n * 2 ^ k := Nat.mul_pos (Nat.pos_iff_ne_zero.2 h1) (Nat.two_pow_pos k)
    have hs : Ieee.signed t n k ≠ 0 ∧ decide (Ieee.signed t n k < 0) = t ∧ (Ieee.signed t n k).natAbs = n * 2 ^ k := by
      unfold Ieee.signed
      rw [Nat.shiftLeft_eq]
      generalize n * 2 ^ k = q at hpos ⊢
      cases t
      · exact ⟨by simp <;> omega, by simp <;> omega, by simp⟩
      · exact ⟨by simp <;> omega, by simp <;> omega, by simp⟩
    rw [if_neg hs.1, hs.2.1, hs.2.2]
    have := nearest_exact h1 h2 h3 h4 h5 k
    rw [show j - (k : Int) = -1074 by omega] at this
    exact .inl (congrArg some this)
theorem fin_of_RZ {x y : Nat} (h : RZ (some x) (some y)) (hy : finX y) : finX x := by
  rcases h with h | ⟨a, b⟩
  · cases h; exact hy
  · rcases a with a | a <;> cases a <;> exact ⟨by decide, by decide⟩
/-- A quarter of a turn: by value the parts change places. -/
theorem quarter {a b r j : Nat} (ha : finX a) (hb : finX b) (er : cn r = fop .sub (fop .mul (cn a) (cn 0)) (fop .mul (cn b) (cn 4607182418800017408))) (ej : cn j = fop .add (fop .mul (cn a) (cn 4607182418800017408)) (fop .mul (cn b) (cn 0))) :
    RZ (some r) (some (ng b)) ∧ RZ (some j) (some a) ∧ finX r ∧ finX j := by
  have c0 : cn 0 = some 0 := by decide +kernel
  have c1 : cn 4607182418800017408 = some 4607182418800017408 := by decide +kernel
  rw [cn_some ha.nan, cn_some hb.nan, c0, c1, mul_one' hb, sub_add (by intro y e; cases e; exact hb.1)] at er
  rw [cn_some ha.nan, cn_some hb.nan, c0, c1, mul_one' ha, fop_add_comm] at ej
  have g1 : RZ (cn r) (some (ng b)) := by rw [er]; exact add_zero' (mul_zero' ha) hb.ng
  have g2 : RZ (cn j) (some a) := by rw [ej]; exact add_zero' (mul_zero' hb) ha
  have some_of : ∀ {x y : Nat}, RZ (cn x) (some y) → RZ (some x) (some y) := by
    intro x y h
    rcases h with h | ⟨h, h2⟩
    · rw [cn_eq h]; exact .inl rfl
    · rcases h with h | h <;> rw [cn_eq h] <;> exact .inr ⟨by first | exact .inl rfl | exact .inr rfl, h2⟩
  exact ⟨some_of g1, some_of g2, fin_of_RZ (some_of g1) hb.ng, fin_of_RZ (some_of g2) ha⟩
theorem order_refl' {x : Nat} (h : isN x = false) : (FloatKind.f64.format.order x x == some Ordering.eq) = true := by
  have := order_self x
  rw [h] at this
  simp only [bne] at this
  generalize (FloatKind.f64.format.order x x == some Ordering.eq) = b at this ⊢
  cases b
  · cases this
  · rfl
theorem order_RZ {x y : Nat} (h : RZ (some x) (some y)) (hy : isN y = false) : (FloatKind.f64.format.order x y == some Ordering.eq) = true := by
  rcases h with h | ⟨a, b⟩
  · cases h; exact order_refl' hy
  · rcases a with a | a <;> rcases b with b | b <;> cases a <;> cases b <;> decide +kernel
theorem some_of {x y : Nat} (h : RZ (cn x) (some y)) : RZ (some x) (some y) := by
  rcases h with h | ⟨h, h2⟩
  · rw [cn_eq h]; exact .inl rfl
  · rcases h with h | h <;> rw [cn_eq h] <;> exact .inr ⟨by first | exact .inl rfl | exact .inr rfl, h2⟩
theorem turned_re {ai ar r j B D P Q : Option Nat} (hai : W64 ai) (T1 : RZ r (nO ai)) (T2 : RZ j ar) (hp : P = fop .add (fop .mul ar D) (fop .mul ai B)) (hq : Q = fop .sub (fop .mul r B) (fop .mul j D)) : RZ Q (nO P) := by
  rw [hq, hp, sub_add (W64.fop _ _ _)]
  refine (RZ.add (T1.mull B) (T2.mull D).neg).trans ?_
  rw [mul_ngl B hai]
  refine (add_ng (W64.fop _ _ _) (W64.fop _ _ _)).trans ?_
  rw [fop_add_comm]
  exact .inl rfl
theorem turned_im {ai ar r j B D P Q : Option Nat} (hai : W64 ai) (T1 : RZ r (nO ai)) (T2 : RZ j ar) (hp : P = fop .sub (fop .mul ar B) (fop .mul ai D)) (hq : Q = fop .add (fop .mul r D) (fop .mul j B)) : RZ Q P := by
  rw [hq, hp, sub_add (W64.fop _ _ _)]
  refine (RZ.add (T1.mull D) (T2.mull B)).trans ?_
  rw [mul_ngl D hai, fop_add_comm]
  exact .inl rfl
theorem infp_inf : infp 9218868437227405312 = true := by decide +kernel
theorem finv_fin {x : Nat} (hx : x < 18446744073709551616) (h : finv x = true) : finX x := by
  unfold finv at h
  obtain ⟨h1, h2⟩ := Bool.and_eq_true_iff.1 h
  refine ⟨hx, ?_⟩
  have h1' : isN x = false := by revert h1; cases isN x <;> simp
  unfold isN at h1'
  have h3 := of_decide_eq_false h1'
  rcases Nat.lt_or_ge (x % 9223372036854775808) 9218868437227405312 with q | q
  · exact q
  · rw [show x % 9223372036854775808 = 9218868437227405312 by omega, infp_inf] at h2
    cases h2
end Go.Proofs.Ytiloleochmdfoaa
