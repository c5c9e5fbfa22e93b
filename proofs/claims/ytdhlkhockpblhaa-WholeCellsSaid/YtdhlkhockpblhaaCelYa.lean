/-
  Plain law: Gram matrices, changes of edges, what holds at the end of the steps.
-/
import Derived.Test.YtdhlkhockpblhaaRedVb
import Derived.Test.YtdhlkhockpblhaaCelB
import Derived.Test.YtdhlkhockpblhaaCelP
import Derived.Test.YtdhlkhockpblhaaRedTa
namespace Go.Proofs.Ytdhlkhockpblhaa
open Go.RowKit
attribute [local irreducible] World.setCell

set_option linter.unusedSimpArgs false
set_option linter.unusedVariables false

def gram (t0 t1 t2 t3 t4 t5 t6 t7 t8 : Int) : Met := ⟨t0 * t0 + t3 * t3 + t6 * t6, t1 * t1 + t4 * t4 + t7 * t7, t2 * t2 + t5 * t5 + t8 * t8, t1 * t2 + t4 * t5 + t7 * t8, t0 * t2 + t3 * t5 + t6 * t8, t0 * t1 + t3 * t4 + t6 * t7⟩
def dT (t0 t1 t2 t3 t4 t5 t6 t7 t8 : Int) : Int := t0 * t4 * t8 - t0 * t5 * t7 + (t1 * t5 * t6 - t1 * t3 * t8) + (t2 * t3 * t7 - t2 * t4 * t6)
def detM (m : Met) : Int := detP m.aa m.bb m.cc m.bc m.ac m.ab
theorem gram_det (t0 t1 t2 t3 t4 t5 t6 t7 t8 : Int) : detM (gram t0 t1 t2 t3 t4 t5 t6 t7 t8) = dT t0 t1 t2 t3 t4 t5 t6 t7 t8 * dT t0 t1 t2 t3 t4 t5 t6 t7 t8 := by simp only [detM, detP, gram, dT]; grind
theorem sq0 {a : Int} (h : a * a = 0) : a = 0 := by rcases Int.mul_eq_zero.mp h with h | h <;> exact h
theorem sq3 {a b c : Int} (h : a * a + b * b + c * c ≤ 0) : a = 0 ∧ b = 0 ∧ c = 0 := by
  have a0 := sq_nonneg' a; have b0 := sq_nonneg' b; have c0 := sq_nonneg' c
  exact ⟨sq0 (by omega), sq0 (by omega), sq0 (by omega)⟩
theorem gram_bnd {t0 t1 t2 t3 t4 t5 t6 t7 t8 : Int} (hb : (-55 ≤ t0 ∧ t0 ≤ 55) ∧ (-55 ≤ t1 ∧ t1 ≤ 55) ∧ (-55 ≤ t2 ∧ t2 ≤ 55) ∧ (-55 ≤ t3 ∧ t3 ≤ 55) ∧ (-55 ≤ t4 ∧ t4 ≤ 55) ∧ (-55 ≤ t5 ∧ t5 ≤ 55) ∧ (-55 ≤ t6 ∧ t6 ≤ 55) ∧ (-55 ≤ t7 ∧ t7 ≤ 55) ∧ (-55 ≤ t8 ∧ t8 ≤ 55)) : (-9075 ≤ (gram t0 t1 t2 t3 t4 t5 t6 t7 t8).aa ∧ (gram t0 t1 t2 t3 t4 t5 t6 t7 t8).aa ≤ 9075) ∧ (-9075 ≤ (gram t0 t1 t2 t3 t4 t5 t6 t7 t8).bb ∧ (gram t0 t1 t2 t3 t4 t5 t6 t7 t8).bb ≤ 9075) ∧ (-9075 ≤ (gram t0 t1 t2 t3 t4 t5 t6 t7 t8).cc ∧ (gram t0 t1 t2 t3 t4 t5 t6 t7 t8).cc ≤ 9075) ∧ (-9075 ≤ (gram t0 t1 t2 t3 t4 t5 t6 t7 t8).bc ∧ (gram t0 t1 t2 t3 t4 t5 t6 t7 t8).bc ≤ 9075) ∧ (-9075 ≤ (gram t0 t1 t2 t3 t4 t5 t6 t7 t8).ac ∧ (gram t0 t1 t2 t3 t4 t5 t6 t7 t8).ac ≤ 9075) ∧ (-9075 ≤ (gram t0 t1 t2 t3 t4 t5 t6 t7 t8).ab ∧ (gram t0 t1 t2 t3 t4 t5 t6 t7 t8).ab ≤ 9075) := by
  obtain ⟨b0, b1, b2, b3, b4, b5, b6, b7, b8⟩ := hb
  have p00 := mulb 55 55 b0 b0
  have p01 := mulb 55 55 b0 b1
  have p02 := mulb 55 55 b0 b2
  have p11 := mulb 55 55 b1 b1
  have p12 := mulb 55 55 b1 b2
  have p22 := mulb 55 55 b2 b2
  have p33 := mulb 55 55 b3 b3
  have p34 := mulb 55 55 b3 b4
  have p35 := mulb 55 55 b3 b5
  have p44 := mulb 55 55 b4 b4
  have p45 := mulb 55 55 b4 b5
  have p55 := mulb 55 55 b5 b5
  have p66 := mulb 55 55 b6 b6
  have p67 := mulb 55 55 b6 b7
  have p68 := mulb 55 55 b6 b8
  have p77 := mulb 55 55 b7 b7
  have p78 := mulb 55 55 b7 b8
  have p88 := mulb 55 55 b8 b8
  simp only [gram]
  omega
theorem dT_bnd {t0 t1 t2 t3 t4 t5 t6 t7 t8 : Int} (hb : (-55 ≤ t0 ∧ t0 ≤ 55) ∧ (-55 ≤ t1 ∧ t1 ≤ 55) ∧ (-55 ≤ t2 ∧ t2 ≤ 55) ∧ (-55 ≤ t3 ∧ t3 ≤ 55) ∧ (-55 ≤ t4 ∧ t4 ≤ 55) ∧ (-55 ≤ t5 ∧ t5 ≤ 55) ∧ (-55 ≤ t6 ∧ t6 ≤ 55) ∧ (-55 ≤ t7 ∧ t7 ≤ 55) ∧ (-55 ≤ t8 ∧ t8 ≤ 55)) : -1000000 ≤ dT t0 t1 t2 t3 t4 t5 t6 t7 t8 ∧ dT t0 t1 t2 t3 t4 t5 t6 t7 t8 ≤ 1000000 := by
  obtain ⟨b0, b1, b2, b3, b4, b5, b6, b7, b8⟩ := hb
  have p048 := mulb 3025 55 (mulb 55 55 b0 b4) b8
  have p057 := mulb 3025 55 (mulb 55 55 b0 b5) b7
  have p156 := mulb 3025 55 (mulb 55 55 b1 b5) b6
  have p138 := mulb 3025 55 (mulb 55 55 b1 b3) b8
  have p237 := mulb 3025 55 (mulb 55 55 b2 b3) b7
  have p246 := mulb 3025 55 (mulb 55 55 b2 b4) b6
  simp only [dT]
  omega
theorem gram_min (t0 t1 t2 t3 t4 t5 t6 t7 t8 : Int) : (gram t0 t1 t2 t3 t4 t5 t6 t7 t8).aa * (gram t0 t1 t2 t3 t4 t5 t6 t7 t8).bb - (gram t0 t1 t2 t3 t4 t5 t6 t7 t8).ab * (gram t0 t1 t2 t3 t4 t5 t6 t7 t8).ab = (t3 * t7 - t6 * t4) * (t3 * t7 - t6 * t4) + (t6 * t1 - t0 * t7) * (t6 * t1 - t0 * t7) + (t0 * t4 - t3 * t1) * (t0 * t4 - t3 * t1) := by simp only [gram]; grind
theorem gram_ok {t0 t1 t2 t3 t4 t5 t6 t7 t8 : Int} (hb : (-55 ≤ t0 ∧ t0 ≤ 55) ∧ (-55 ≤ t1 ∧ t1 ≤ 55) ∧ (-55 ≤ t2 ∧ t2 ≤ 55) ∧ (-55 ≤ t3 ∧ t3 ≤ 55) ∧ (-55 ≤ t4 ∧ t4 ≤ 55) ∧ (-55 ≤ t5 ∧ t5 ≤ 55) ∧ (-55 ≤ t6 ∧ t6 ≤ 55) ∧ (-55 ≤ t7 ∧ t7 ≤ 55) ∧ (-55 ≤ t8 ∧ t8 ≤ 55)) (hd : dT t0 t1 t2 t3 t4 t5 t6 t7 t8 ≠ 0) : chk (gram t0 t1 t2 t3 t4 t5 t6 t7 t8) = 0 := by
  have gb := gram_bnd hb; have db := dT_bnd hb; have gd := gram_det t0 t1 t2 t3 t4 t5 t6 t7 t8; have gm := gram_min t0 t1 t2 t3 t4 t5 t6 t7 t8
  have dd := mulb 1000000 1000000 db db
  have d1 : 0 < dT t0 t1 t2 t3 t4 t5 t6 t7 t8 * dT t0 t1 t2 t3 t4 t5 t6 t7 t8 := by
    have d0 := sq_nonneg' (dT t0 t1 t2 t3 t4 t5 t6 t7 t8)
    rcases Int.lt_or_le 0 (dT t0 t1 t2 t3 t4 t5 t6 t7 t8 * dT t0 t1 t2 t3 t4 t5 t6 t7 t8) with h | h
    · exact h
    · exact absurd (sq0 (by omega)) hd
  have zz : ∀ a b c x y z : Int, (a = 0 ∧ b = 0 ∧ c = 0) → a * x + b * y + c * z = 0 := fun a b c x y z h => by rw [h.1, h.2.1, h.2.2]; omega
  have a0 : 1 ≤ (gram t0 t1 t2 t3 t4 t5 t6 t7 t8).aa := by
    rcases Int.lt_or_le 0 (gram t0 t1 t2 t3 t4 t5 t6 t7 t8).aa with h | h
    · omega
    · exact absurd (by rw [show dT t0 t1 t2 t3 t4 t5 t6 t7 t8 = t0 * (t4 * t8 - t7 * t5) + t3 * (t7 * t2 - t1 * t8) + t6 * (t1 * t5 - t4 * t2) from by simp only [dT]; grind]; exact zz _ _ _ _ _ _ (sq3 h)) hd
  have a1 : 1 ≤ (gram t0 t1 t2 t3 t4 t5 t6 t7 t8).bb := by
    rcases Int.lt_or_le 0 (gram t0 t1 t2 t3 t4 t5 t6 t7 t8).bb with h | h
    · omega
    · exact absurd (by rw [show dT t0 t1 t2 t3 t4 t5 t6 t7 t8 = t1 * (t5 * t6 - t8 * t3) + t4 * (t8 * t0 - t2 * t6) + t7 * (t2 * t3 - t5 * t0) from by simp only [dT]; grind]; exact zz _ _ _ _ _ _ (sq3 h)) hd
  have a2 : 1 ≤ (gram t0 t1 t2 t3 t4 t5 t6 t7 t8).cc := by
    rcases Int.lt_or_le 0 (gram t0 t1 t2 t3 t4 t5 t6 t7 t8).cc with h | h
    · omega
    · exact absurd (by rw [show dT t0 t1 t2 t3 t4 t5 t6 t7 t8 = t2 * (t3 * t7 - t6 * t4) + t5 * (t6 * t1 - t0 * t7) + t8 * (t0 * t4 - t3 * t1) from by simp only [dT]; grind]; exact zz _ _ _ _ _ _ (sq3 h)) hd
  have a3 : 0 < (gram t0 t1 t2 t3 t4 t5 t6 t7 t8).aa * (gram t0 t1 t2 t3 t4 t5 t6 t7 t8).bb - (gram t0 t1 t2 t3 t4 t5 t6 t7 t8).ab * (gram t0 t1 t2 t3 t4 t5 t6 t7 t8).ab := by
    rw [gm]
    rcases Int.lt_or_le 0 ((t3 * t7 - t6 * t4) * (t3 * t7 - t6 * t4) + (t6 * t1 - t0 * t7) * (t6 * t1 - t0 * t7) + (t0 * t4 - t3 * t1) * (t0 * t4 - t3 * t1)) with h | h
    · exact h
    · exact absurd (by rw [show dT t0 t1 t2 t3 t4 t5 t6 t7 t8 = (t3 * t7 - t6 * t4) * t2 + (t6 * t1 - t0 * t7) * t5 + (t0 * t4 - t3 * t1) * t8 from by simp only [dT]; grind]; exact zz _ _ _ _ _ _ (sq3 h)) hd
  refine (checkC_0 (by omega) a3 ?_).symm
  rw [show detP (gram t0 t1 t2 t3 t4 t5 t6 t7 t8).aa (gram t0 t1 t2 t3 t4 t5 t6 t7 t8).bb (gram t0 t1 t2 t3 t4 t5 t6 t7 t8).cc (gram t0 t1 t2 t3 t4 t5 t6 t7 t8).bc (gram t0 t1 t2 t3 t4 t5 t6 t7 t8).ac (gram t0 t1 t2 t3 t4 t5 t6 t7 t8).ab = dT t0 t1 t2 t3 t4 t5 t6 t7 t8 * dT t0 t1 t2 t3 t4 t5 t6 t7 t8 from gd, wrapE (by omega) (by omega)]
  exact d1
theorem gram_bad {t0 t1 t2 t3 t4 t5 t6 t7 t8 : Int} (hd : dT t0 t1 t2 t3 t4 t5 t6 t7 t8 = 0) : chk (gram t0 t1 t2 t3 t4 t5 t6 t7 t8) ≠ 0 := by
  have gd := gram_det t0 t1 t2 t3 t4 t5 t6 t7 t8
  rw [hd] at gd
  have gd' : detP (gram t0 t1 t2 t3 t4 t5 t6 t7 t8).aa (gram t0 t1 t2 t3 t4 t5 t6 t7 t8).bb (gram t0 t1 t2 t3 t4 t5 t6 t7 t8).cc (gram t0 t1 t2 t3 t4 t5 t6 t7 t8).bc (gram t0 t1 t2 t3 t4 t5 t6 t7 t8).ac (gram t0 t1 t2 t3 t4 t5 t6 t7 t8).ab = 0 := by rw [← Int.zero_mul 0]; exact gd
  unfold chk checkC
  split
  · rw [if_pos (Or.inr (by rw [gd', wrapE (by omega) (by omega)]; exact Int.le_refl 0))]; decide
  · decide
theorem gram_gr (t0 t1 t2 t3 t4 t5 t6 t7 t8 q00 q01 q02 q10 q11 q12 q20 q21 q22 : Int) : gr (gram t0 t1 t2 t3 t4 t5 t6 t7 t8) ⟨q00, q01, q02, q10, q11, q12, q20, q21, q22⟩ = gram (t0 * q00 + t1 * q10 + t2 * q20) (t0 * q01 + t1 * q11 + t2 * q21) (t0 * q02 + t1 * q12 + t2 * q22) (t3 * q00 + t4 * q10 + t5 * q20) (t3 * q01 + t4 * q11 + t5 * q21) (t3 * q02 + t4 * q12 + t5 * q22) (t6 * q00 + t7 * q10 + t8 * q20) (t6 * q01 + t7 * q11 + t8 * q21) (t6 * q02 + t7 * q12 + t8 * q22) := by
  simp only [gr, gram, Met.mk.injEq]
  refine ⟨?_, ?_, ?_, ?_, ?_, ?_⟩ <;> grind
theorem dT_mul (t0 t1 t2 t3 t4 t5 t6 t7 t8 q00 q01 q02 q10 q11 q12 q20 q21 q22 : Int) : dT (t0 * q00 + t1 * q10 + t2 * q20) (t0 * q01 + t1 * q11 + t2 * q21) (t0 * q02 + t1 * q12 + t2 * q22) (t3 * q00 + t4 * q10 + t5 * q20) (t3 * q01 + t4 * q11 + t5 * q21) (t3 * q02 + t4 * q12 + t5 * q22) (t6 * q00 + t7 * q10 + t8 * q20) (t6 * q01 + t7 * q11 + t8 * q21) (t6 * q02 + t7 * q12 + t8 * q22) = dT t0 t1 t2 t3 t4 t5 t6 t7 t8 * D9 ⟨q00, q01, q02, q10, q11, q12, q20, q21, q22⟩ := by simp only [dT, D9]; grind
def nH0 (t0 t1 t2 t3 t4 t5 t6 t7 t8 h0 h1 h2 : Int) : Int := h0 * (t4 * t8 - t7 * t5) + h1 * (t5 * t6 - t8 * t3) + h2 * (t3 * t7 - t6 * t4)
def nH1 (t0 t1 t2 t3 t4 t5 t6 t7 t8 h0 h1 h2 : Int) : Int := h0 * (t7 * t2 - t1 * t8) + h1 * (t8 * t0 - t2 * t6) + h2 * (t6 * t1 - t0 * t7)
def nH2 (t0 t1 t2 t3 t4 t5 t6 t7 t8 h0 h1 h2 : Int) : Int := h0 * (t1 * t5 - t4 * t2) + h1 * (t2 * t3 - t5 * t0) + h2 * (t0 * t4 - t3 * t1)
def nSq (t0 t1 t2 t3 t4 t5 t6 t7 t8 h0 h1 h2 : Int) : Int := nH0 t0 t1 t2 t3 t4 t5 t6 t7 t8 h0 h1 h2 * nH0 t0 t1 t2 t3 t4 t5 t6 t7 t8 h0 h1 h2 + nH1 t0 t1 t2 t3 t4 t5 t6 t7 t8 h0 h1 h2 * nH1 t0 t1 t2 t3 t4 t5 t6 t7 t8 h0 h1 h2 + nH2 t0 t1 t2 t3 t4 t5 t6 t7 t8 h0 h1 h2 * nH2 t0 t1 t2 t3 t4 t5 t6 t7 t8 h0 h1 h2
theorem nH0_mul (t0 t1 t2 t3 t4 t5 t6 t7 t8 q00 q01 q02 q10 q11 q12 q20 q21 q22 h0 h1 h2 : Int) : nH0 (t0 * q00 + t1 * q10 + t2 * q20) (t0 * q01 + t1 * q11 + t2 * q21) (t0 * q02 + t1 * q12 + t2 * q22) (t3 * q00 + t4 * q10 + t5 * q20) (t3 * q01 + t4 * q11 + t5 * q21) (t3 * q02 + t4 * q12 + t5 * q22) (t6 * q00 + t7 * q10 + t8 * q20) (t6 * q01 + t7 * q11 + t8 * q21) (t6 * q02 + t7 * q12 + t8 * q22) (h0 * q00 + h1 * q10 + h2 * q20) (h0 * q01 + h1 * q11 + h2 * q21) (h0 * q02 + h1 * q12 + h2 * q22) = D9 ⟨q00, q01, q02, q10, q11, q12, q20, q21, q22⟩ * nH0 t0 t1 t2 t3 t4 t5 t6 t7 t8 h0 h1 h2 := by simp only [nH0, D9]; grind
theorem nH1_mul (t0 t1 t2 t3 t4 t5 t6 t7 t8 q00 q01 q02 q10 q11 q12 q20 q21 q22 h0 h1 h2 : Int) : nH1 (t0 * q00 + t1 * q10 + t2 * q20) (t0 * q01 + t1 * q11 + t2 * q21) (t0 * q02 + t1 * q12 + t2 * q22) (t3 * q00 + t4 * q10 + t5 * q20) (t3 * q01 + t4 * q11 + t5 * q21) (t3 * q02 + t4 * q12 + t5 * q22) (t6 * q00 + t7 * q10 + t8 * q20) (t6 * q01 + t7 * q11 + t8 * q21) (t6 * q02 + t7 * q12 + t8 * q22) (h0 * q00 + h1 * q10 + h2 * q20) (h0 * q01 + h1 * q11 + h2 * q21) (h0 * q02 + h1 * q12 + h2 * q22) = D9 ⟨q00, q01, q02, q10, q11, q12, q20, q21, q22⟩ * nH1 t0 t1 t2 t3 t4 t5 t6 t7 t8 h0 h1 h2 := by simp only [nH1, D9]; grind
theorem nH2_mul (t0 t1 t2 t3 t4 t5 t6 t7 t8 q00 q01 q02 q10 q11 q12 q20 q21 q22 h0 h1 h2 : Int) : nH2 (t0 * q00 + t1 * q10 + t2 * q20) (t0 * q01 + t1 * q11 + t2 * q21) (t0 * q02 + t1 * q12 + t2 * q22) (t3 * q00 + t4 * q10 + t5 * q20) (t3 * q01 + t4 * q11 + t5 * q21) (t3 * q02 + t4 * q12 + t5 * q22) (t6 * q00 + t7 * q10 + t8 * q20) (t6 * q01 + t7 * q11 + t8 * q21) (t6 * q02 + t7 * q12 + t8 * q22) (h0 * q00 + h1 * q10 + h2 * q20) (h0 * q01 + h1 * q11 + h2 * q21) (h0 * q02 + h1 * q12 + h2 * q22) = D9 ⟨q00, q01, q02, q10, q11, q12, q20, q21, q22⟩ * nH2 t0 t1 t2 t3 t4 t5 t6 t7 t8 h0 h1 h2 := by simp only [nH2, D9]; grind
theorem nSq_mul (t0 t1 t2 t3 t4 t5 t6 t7 t8 q00 q01 q02 q10 q11 q12 q20 q21 q22 h0 h1 h2 : Int) (hd2 : D9 ⟨q00, q01, q02, q10, q11, q12, q20, q21, q22⟩ * D9 ⟨q00, q01, q02, q10, q11, q12, q20, q21, q22⟩ = 1) : nSq (t0 * q00 + t1 * q10 + t2 * q20) (t0 * q01 + t1 * q11 + t2 * q21) (t0 * q02 + t1 * q12 + t2 * q22) (t3 * q00 + t4 * q10 + t5 * q20) (t3 * q01 + t4 * q11 + t5 * q21) (t3 * q02 + t4 * q12 + t5 * q22) (t6 * q00 + t7 * q10 + t8 * q20) (t6 * q01 + t7 * q11 + t8 * q21) (t6 * q02 + t7 * q12 + t8 * q22) (h0 * q00 + h1 * q10 + h2 * q20) (h0 * q01 + h1 * q11 + h2 * q21) (h0 * q02 + h1 * q12 + h2 * q22) = nSq t0 t1 t2 t3 t4 t5 t6 t7 t8 h0 h1 h2 := by
  simp only [nSq]
  rw [nH0_mul, nH1_mul, nH2_mul]
  grind
theorem nSq_zero {t0 t1 t2 t3 t4 t5 t6 t7 t8 h0 h1 h2 : Int} (hd : dT t0 t1 t2 t3 t4 t5 t6 t7 t8 ≠ 0) : nSq t0 t1 t2 t3 t4 t5 t6 t7 t8 h0 h1 h2 = 0 ↔ (h0 = 0 ∧ h1 = 0 ∧ h2 = 0) := by
  constructor
  · intro h
    obtain ⟨e0, e1, e2⟩ := sq3 (Int.le_of_eq h)
    have f0 : dT t0 t1 t2 t3 t4 t5 t6 t7 t8 * h0 = t0 * nH0 t0 t1 t2 t3 t4 t5 t6 t7 t8 h0 h1 h2 + t3 * nH1 t0 t1 t2 t3 t4 t5 t6 t7 t8 h0 h1 h2 + t6 * nH2 t0 t1 t2 t3 t4 t5 t6 t7 t8 h0 h1 h2 := by simp only [dT, nH0, nH1, nH2]; grind
    rw [e0, e1, e2] at f0
    have f1 : dT t0 t1 t2 t3 t4 t5 t6 t7 t8 * h1 = t1 * nH0 t0 t1 t2 t3 t4 t5 t6 t7 t8 h0 h1 h2 + t4 * nH1 t0 t1 t2 t3 t4 t5 t6 t7 t8 h0 h1 h2 + t7 * nH2 t0 t1 t2 t3 t4 t5 t6 t7 t8 h0 h1 h2 := by simp only [dT, nH0, nH1, nH2]; grind
    rw [e0, e1, e2] at f1
    have f2 : dT t0 t1 t2 t3 t4 t5 t6 t7 t8 * h2 = t2 * nH0 t0 t1 t2 t3 t4 t5 t6 t7 t8 h0 h1 h2 + t5 * nH1 t0 t1 t2 t3 t4 t5 t6 t7 t8 h0 h1 h2 + t8 * nH2 t0 t1 t2 t3 t4 t5 t6 t7 t8 h0 h1 h2 := by simp only [dT, nH0, nH1, nH2]; grind
    rw [e0, e1, e2] at f2
    exact ⟨(Int.mul_eq_zero.mp (by omega : dT t0 t1 t2 t3 t4 t5 t6 t7 t8 * h0 = 0)).resolve_left hd, (Int.mul_eq_zero.mp (by omega : dT t0 t1 t2 t3 t4 t5 t6 t7 t8 * h1 = 0)).resolve_left hd, (Int.mul_eq_zero.mp (by omega : dT t0 t1 t2 t3 t4 t5 t6 t7 t8 * h2 = 0)).resolve_left hd⟩
  · rintro ⟨rfl, rfl, rfl⟩
    simp only [nSq, nH0, nH1, nH2]; grind
theorem adj_nSq (t0 t1 t2 t3 t4 t5 t6 t7 t8 h0 h1 h2 : Int) : h0 * ((gram t0 t1 t2 t3 t4 t5 t6 t7 t8).bb * (gram t0 t1 t2 t3 t4 t5 t6 t7 t8).cc - (gram t0 t1 t2 t3 t4 t5 t6 t7 t8).bc * (gram t0 t1 t2 t3 t4 t5 t6 t7 t8).bc) * h0 + h0 * ((gram t0 t1 t2 t3 t4 t5 t6 t7 t8).ac * (gram t0 t1 t2 t3 t4 t5 t6 t7 t8).bc - (gram t0 t1 t2 t3 t4 t5 t6 t7 t8).cc * (gram t0 t1 t2 t3 t4 t5 t6 t7 t8).ab) * h1 + h0 * ((gram t0 t1 t2 t3 t4 t5 t6 t7 t8).ab * (gram t0 t1 t2 t3 t4 t5 t6 t7 t8).bc - (gram t0 t1 t2 t3 t4 t5 t6 t7 t8).bb * (gram t0 t1 t2 t3 t4 t5 t6 t7 t8).ac) * h2 + h1 * ((gram t0 t1 t2 t3 t4 t5 t6 t7 t8).ac * (gram t0 t1 t2 t3 t4 t5 t6 t7 t8).bc - (gram t0 t1 t2 t3 t4 t5 t6 t7 t8).cc * (gram t0 t1 t2 t3 t4 t5 t6 t7 t8).ab) * h0 + h1 * ((gram t0 t1 t2 t3 t4 t5 t6 t7 t8).aa * (gram t0 t1 t2 t3 t4 t5 t6 t7 t8).cc - (gram t0 t1 t2 t3 t4 t5 t6 t7 t8).ac * (gram t0 t1 t2 t3 t4 t5 t6 t7 t8).ac) * h1 + h1 * ((gram t0 t1 t2 t3 t4 t5 t6 t7 t8).ab * (gram t0 t1 t2 t3 t4 t5 t6 t7 t8).ac - (gram t0 t1 t2 t3 t4 t5 t6 t7 t8).aa * (gram t0 t1 t2 t3 t4 t5 t6 t7 t8).bc) * h2 + h2 * ((gram t0 t1 t2 t3 t4 t5 t6 t7 t8).ab * (gram t0 t1 t2 t3 t4 t5 t6 t7 t8).bc - (gram t0 t1 t2 t3 t4 t5 t6 t7 t8).bb * (gram t0 t1 t2 t3 t4 t5 t6 t7 t8).ac) * h0 + h2 * ((gram t0 t1 t2 t3 t4 t5 t6 t7 t8).ab * (gram t0 t1 t2 t3 t4 t5 t6 t7 t8).ac - (gram t0 t1 t2 t3 t4 t5 t6 t7 t8).aa * (gram t0 t1 t2 t3 t4 t5 t6 t7 t8).bc) * h1 + h2 * ((gram t0 t1 t2 t3 t4 t5 t6 t7 t8).aa * (gram t0 t1 t2 t3 t4 t5 t6 t7 t8).bb - (gram t0 t1 t2 t3 t4 t5 t6 t7 t8).ab * (gram t0 t1 t2 t3 t4 t5 t6 t7 t8).ab) * h2 = nSq t0 t1 t2 t3 t4 t5 t6 t7 t8 h0 h1 h2 := by
  simp only [nSq, nH0, nH1, nH2, gram]; grind
end Go.Proofs.Ytdhlkhockpblhaa
namespace Go.Proofs.Ytdhlkhockpblhaa
open Go.RowKit
attribute [local irreducible] World.setCell

set_option linter.unusedSimpArgs false
set_option linter.unusedVariables false

def pM (n : Nat) : Mt := ⟨(M.sgM n).p00 + 2 * (M.sgM n).p01, (M.sgM n).p01 - (M.sgM n).p02, (M.sgM n).p02, (M.sgM n).p10 + 2 * (M.sgM n).p11, (M.sgM n).p11 - (M.sgM n).p12, (M.sgM n).p12, (M.sgM n).p20 + 2 * (M.sgM n).p21, (M.sgM n).p21 - (M.sgM n).p22, (M.sgM n).p22⟩
def qM (n : Nat) : Mt := ⟨(M.sgM n).p00, (M.sgM n).p10, (M.sgM n).p20, -2 * (M.sgM n).p00 + (M.sgM n).p01, -2 * (M.sgM n).p10 + (M.sgM n).p11, -2 * (M.sgM n).p20 + (M.sgM n).p21, -2 * (M.sgM n).p00 + (M.sgM n).p01 + (M.sgM n).p02, -2 * (M.sgM n).p10 + (M.sgM n).p11 + (M.sgM n).p12, -2 * (M.sgM n).p20 + (M.sgM n).p21 + (M.sgM n).p22⟩
/-- What a change of edges and what undoes it are to one another. -/
structure PQ (n : Nat) (P Q : Mt) : Prop where
  t00 : wrap64 ((M.sgM n).p00 * 1 + (M.sgM n).p01 * 2 + (M.sgM n).p02 * 0) = P.p00
  t01 : wrap64 ((M.sgM n).p00 * 0 + (M.sgM n).p01 * 1 + (M.sgM n).p02 * (-1)) = P.p01
  t02 : wrap64 ((M.sgM n).p00 * 0 + (M.sgM n).p01 * 0 + (M.sgM n).p02 * 1) = P.p02
  t10 : wrap64 ((M.sgM n).p10 * 1 + (M.sgM n).p11 * 2 + (M.sgM n).p12 * 0) = P.p10
  t11 : wrap64 ((M.sgM n).p10 * 0 + (M.sgM n).p11 * 1 + (M.sgM n).p12 * (-1)) = P.p11
  t12 : wrap64 ((M.sgM n).p10 * 0 + (M.sgM n).p11 * 0 + (M.sgM n).p12 * 1) = P.p12
  t20 : wrap64 ((M.sgM n).p20 * 1 + (M.sgM n).p21 * 2 + (M.sgM n).p22 * 0) = P.p20
  t21 : wrap64 ((M.sgM n).p20 * 0 + (M.sgM n).p21 * 1 + (M.sgM n).p22 * (-1)) = P.p21
  t22 : wrap64 ((M.sgM n).p20 * 0 + (M.sgM n).p21 * 0 + (M.sgM n).p22 * 1) = P.p22
  b00 : -3 ≤ P.p00 ∧ P.p00 ≤ 3
  b01 : -3 ≤ P.p01 ∧ P.p01 ≤ 3
  b02 : -3 ≤ P.p02 ∧ P.p02 ≤ 3
  b10 : -3 ≤ P.p10 ∧ P.p10 ≤ 3
  b11 : -3 ≤ P.p11 ∧ P.p11 ≤ 3
  b12 : -3 ≤ P.p12 ∧ P.p12 ≤ 3
  b20 : -3 ≤ P.p20 ∧ P.p20 ≤ 3
  b21 : -3 ≤ P.p21 ∧ P.p21 ≤ 3
  b22 : -3 ≤ P.p22 ∧ P.p22 ≤ 3
  s0 : (Q.p00).natAbs + (Q.p10).natAbs + (Q.p20).natAbs ≤ 5
  s1 : (Q.p01).natAbs + (Q.p11).natAbs + (Q.p21).natAbs ≤ 5
  s2 : (Q.p02).natAbs + (Q.p12).natAbs + (Q.p22).natAbs ≤ 5
  r0 : (P.p00).natAbs + (P.p01).natAbs + (P.p02).natAbs ≤ 3
  r1 : (P.p10).natAbs + (P.p11).natAbs + (P.p12).natAbs ≤ 3
  r2 : (P.p20).natAbs + (P.p21).natAbs + (P.p22).natAbs ≤ 3
  c00 : -2 ≤ Q.p00 ∧ Q.p00 ≤ 2
  c01 : -2 ≤ Q.p01 ∧ Q.p01 ≤ 2
  c02 : -2 ≤ Q.p02 ∧ Q.p02 ≤ 2
  c10 : -2 ≤ Q.p10 ∧ Q.p10 ≤ 2
  c11 : -2 ≤ Q.p11 ∧ Q.p11 ≤ 2
  c12 : -2 ≤ Q.p12 ∧ Q.p12 ≤ 2
  c20 : -2 ≤ Q.p20 ∧ Q.p20 ≤ 2
  c21 : -2 ≤ Q.p21 ∧ Q.p21 ≤ 2
  c22 : -2 ≤ Q.p22 ∧ Q.p22 ≤ 2
  o00 : Q.p00 * P.p00 + Q.p01 * P.p10 + Q.p02 * P.p20 = 1
  o01 : Q.p00 * P.p01 + Q.p01 * P.p11 + Q.p02 * P.p21 = 0
  o02 : Q.p00 * P.p02 + Q.p01 * P.p12 + Q.p02 * P.p22 = 0
  o10 : Q.p10 * P.p00 + Q.p11 * P.p10 + Q.p12 * P.p20 = 0
  o11 : Q.p10 * P.p01 + Q.p11 * P.p11 + Q.p12 * P.p21 = 1
  o12 : Q.p10 * P.p02 + Q.p11 * P.p12 + Q.p12 * P.p22 = 0
  o20 : Q.p20 * P.p00 + Q.p21 * P.p10 + Q.p22 * P.p20 = 0
  o21 : Q.p20 * P.p01 + Q.p21 * P.p11 + Q.p22 * P.p21 = 0
  o22 : Q.p20 * P.p02 + Q.p21 * P.p12 + Q.p22 * P.p22 = 1
  dd : wrap64 (M.d9 P.p00 P.p01 P.p02 P.p10 P.p11 P.p12 P.p20 P.p21 P.p22) = 1 ∨ wrap64 (M.d9 P.p00 P.p01 P.p02 P.p10 P.p11 P.p12 P.p20 P.p21 P.p22) = -1
  mc : M.matC P.p00 P.p01 P.p02 P.p10 P.p11 P.p12 P.p20 P.p21 P.p22 = 0
  dq : D9 Q * D9 Q = 1
  v00 : wrap64 (wrap64 (P.p11 * P.p22 - P.p12 * P.p21) * wrap64 (M.d9 P.p00 P.p01 P.p02 P.p10 P.p11 P.p12 P.p20 P.p21 P.p22)) = Q.p00
  v01 : wrap64 (wrap64 (P.p21 * P.p02 - P.p22 * P.p01) * wrap64 (M.d9 P.p00 P.p01 P.p02 P.p10 P.p11 P.p12 P.p20 P.p21 P.p22)) = Q.p01
  v02 : wrap64 (wrap64 (P.p01 * P.p12 - P.p02 * P.p11) * wrap64 (M.d9 P.p00 P.p01 P.p02 P.p10 P.p11 P.p12 P.p20 P.p21 P.p22)) = Q.p02
  v10 : wrap64 (wrap64 (P.p12 * P.p20 - P.p10 * P.p22) * wrap64 (M.d9 P.p00 P.p01 P.p02 P.p10 P.p11 P.p12 P.p20 P.p21 P.p22)) = Q.p10
  v11 : wrap64 (wrap64 (P.p22 * P.p00 - P.p20 * P.p02) * wrap64 (M.d9 P.p00 P.p01 P.p02 P.p10 P.p11 P.p12 P.p20 P.p21 P.p22)) = Q.p11
  v12 : wrap64 (wrap64 (P.p02 * P.p10 - P.p00 * P.p12) * wrap64 (M.d9 P.p00 P.p01 P.p02 P.p10 P.p11 P.p12 P.p20 P.p21 P.p22)) = Q.p12
  v20 : wrap64 (wrap64 (P.p10 * P.p21 - P.p11 * P.p20) * wrap64 (M.d9 P.p00 P.p01 P.p02 P.p10 P.p11 P.p12 P.p20 P.p21 P.p22)) = Q.p20
  v21 : wrap64 (wrap64 (P.p20 * P.p01 - P.p21 * P.p00) * wrap64 (M.d9 P.p00 P.p01 P.p02 P.p10 P.p11 P.p12 P.p20 P.p21 P.p22)) = Q.p21
  v22 : wrap64 (wrap64 (P.p00 * P.p11 - P.p01 * P.p10) * wrap64 (M.d9 P.p00 P.p01 P.p02 P.p10 P.p11 P.p12 P.p20 P.p21 P.p22)) = Q.p22
def pqB (n : Nat) (P Q : Mt) : Bool := decide (wrap64 ((M.sgM n).p00 * 1 + (M.sgM n).p01 * 2 + (M.sgM n).p02 * 0) = P.p00) && decide (wrap64 ((M.sgM n).p00 * 0 + (M.sgM n).p01 * 1 + (M.sgM n).p02 * (-1)) = P.p01) && decide (wrap64 ((M.sgM n).p00 * 0 + (M.sgM n).p01 * 0 + (M.sgM n).p02 * 1) = P.p02) && decide (wrap64 ((M.sgM n).p10 * 1 + (M.sgM n).p11 * 2 + (M.sgM n).p12 * 0) = P.p10) && decide (wrap64 ((M.sgM n).p10 * 0 + (M.sgM n).p11 * 1 + (M.sgM n).p12 * (-1)) = P.p11) && decide (wrap64 ((M.sgM n).p10 * 0 + (M.sgM n).p11 * 0 + (M.sgM n).p12 * 1) = P.p12) && decide (wrap64 ((M.sgM n).p20 * 1 + (M.sgM n).p21 * 2 + (M.sgM n).p22 * 0) = P.p20) && decide (wrap64 ((M.sgM n).p20 * 0 + (M.sgM n).p21 * 1 + (M.sgM n).p22 * (-1)) = P.p21) && decide (wrap64 ((M.sgM n).p20 * 0 + (M.sgM n).p21 * 0 + (M.sgM n).p22 * 1) = P.p22) && decide (-3 ≤ P.p00 ∧ P.p00 ≤ 3) && decide (-3 ≤ P.p01 ∧ P.p01 ≤ 3) && decide (-3 ≤ P.p02 ∧ P.p02 ≤ 3) && decide (-3 ≤ P.p10 ∧ P.p10 ≤ 3) && decide (-3 ≤ P.p11 ∧ P.p11 ≤ 3) && decide (-3 ≤ P.p12 ∧ P.p12 ≤ 3) && decide (-3 ≤ P.p20 ∧ P.p20 ≤ 3) && decide (-3 ≤ P.p21 ∧ P.p21 ≤ 3) && decide (-3 ≤ P.p22 ∧ P.p22 ≤ 3) && decide ((Q.p00).natAbs + (Q.p10).natAbs + (Q.p20).natAbs ≤ 5) && decide ((Q.p01).natAbs + (Q.p11).natAbs + (Q.p21).natAbs ≤ 5) && decide ((Q.p02).natAbs + (Q.p12).natAbs + (Q.p22).natAbs ≤ 5) && decide ((P.p00).natAbs + (P.p01).natAbs + (P.p02).natAbs ≤ 3) && decide ((P.p10).natAbs + (P.p11).natAbs + (P.p12).natAbs ≤ 3) && decide ((P.p20).natAbs + (P.p21).natAbs + (P.p22).natAbs ≤ 3) && decide (-2 ≤ Q.p00 ∧ Q.p00 ≤ 2) && decide (-2 ≤ Q.p01 ∧ Q.p01 ≤ 2) && decide (-2 ≤ Q.p02 ∧ Q.p02 ≤ 2) && decide (-2 ≤ Q.p10 ∧ Q.p10 ≤ 2) && decide (-2 ≤ Q.p11 ∧ Q.p11 ≤ 2) && decide (-2 ≤ Q.p12 ∧ Q.p12 ≤ 2) && decide (-2 ≤ Q.p20 ∧ Q.p20 ≤ 2) && decide (-2 ≤ Q.p21 ∧ Q.p21 ≤ 2) && decide (-2 ≤ Q.p22 ∧ Q.p22 ≤ 2) && decide (Q.p00 * P.p00 + Q.p01 * P.p10 + Q.p02 * P.p20 = 1) && decide (Q.p00 * P.p01 + Q.p01 * P.p11 + Q.p02 * P.p21 = 0) && decide (Q.p00 * P.p02 + Q.p01 * P.p12 + Q.p02 * P.p22 = 0) && decide (Q.p10 * P.p00 + Q.p11 * P.p10 + Q.p12 * P.p20 = 0) && decide (Q.p10 * P.p01 + Q.p11 * P.p11 + Q.p12 * P.p21 = 1) && decide (Q.p10 * P.p02 + Q.p11 * P.p12 + Q.p12 * P.p22 = 0) && decide (Q.p20 * P.p00 + Q.p21 * P.p10 + Q.p22 * P.p20 = 0) && decide (Q.p20 * P.p01 + Q.p21 * P.p11 + Q.p22 * P.p21 = 0) && decide (Q.p20 * P.p02 + Q.p21 * P.p12 + Q.p22 * P.p22 = 1) && decide (wrap64 (M.d9 P.p00 P.p01 P.p02 P.p10 P.p11 P.p12 P.p20 P.p21 P.p22) = 1 ∨ wrap64 (M.d9 P.p00 P.p01 P.p02 P.p10 P.p11 P.p12 P.p20 P.p21 P.p22) = -1) && decide (M.matC P.p00 P.p01 P.p02 P.p10 P.p11 P.p12 P.p20 P.p21 P.p22 = 0) && decide (D9 Q * D9 Q = 1) && decide (wrap64 (wrap64 (P.p11 * P.p22 - P.p12 * P.p21) * wrap64 (M.d9 P.p00 P.p01 P.p02 P.p10 P.p11 P.p12 P.p20 P.p21 P.p22)) = Q.p00) && decide (wrap64 (wrap64 (P.p21 * P.p02 - P.p22 * P.p01) * wrap64 (M.d9 P.p00 P.p01 P.p02 P.p10 P.p11 P.p12 P.p20 P.p21 P.p22)) = Q.p01) && decide (wrap64 (wrap64 (P.p01 * P.p12 - P.p02 * P.p11) * wrap64 (M.d9 P.p00 P.p01 P.p02 P.p10 P.p11 P.p12 P.p20 P.p21 P.p22)) = Q.p02) && decide (wrap64 (wrap64 (P.p12 * P.p20 - P.p10 * P.p22) * wrap64 (M.d9 P.p00 P.p01 P.p02 P.p10 P.p11 P.p12 P.p20 P.p21 P.p22)) = Q.p10) && decide (wrap64 (wrap64 (P.p22 * P.p00 - P.p20 * P.p02) * wrap64 (M.d9 P.p00 P.p01 P.p02 P.p10 P.p11 P.p12 P.p20 P.p21 P.p22)) = Q.p11) && decide (wrap64 (wrap64 (P.p02 * P.p10 - P.p00 * P.p12) * wrap64 (M.d9 P.p00 P.p01 P.p02 P.p10 P.p11 P.p12 P.p20 P.p21 P.p22)) = Q.p12) && decide (wrap64 (wrap64 (P.p10 * P.p21 - P.p11 * P.p20) * wrap64 (M.d9 P.p00 P.p01 P.p02 P.p10 P.p11 P.p12 P.p20 P.p21 P.p22)) = Q.p20) && decide (wrap64 (wrap64 (P.p20 * P.p01 - P.p21 * P.p00) * wrap64 (M.d9 P.p00 P.p01 P.p02 P.p10 P.p11 P.p12 P.p20 P.p21 P.p22)) = Q.p21) && decide (wrap64 (wrap64 (P.p00 * P.p11 - P.p01 * P.p10) * wrap64 (M.d9 P.p00 P.p01 P.p02 P.p10 P.p11 P.p12 P.p20 P.p21 P.p22)) = Q.p22)
set_option maxRecDepth 100000 in
theorem pqB_ok {n : Nat} {P Q : Mt} (h : pqB n P Q = true) : PQ n P Q := by
  simp only [pqB, Bool.and_eq_true, decide_eq_true_eq] at h
  obtain ⟨⟨⟨⟨⟨⟨⟨⟨⟨⟨⟨⟨⟨⟨⟨⟨⟨⟨⟨⟨⟨⟨⟨⟨⟨⟨⟨⟨⟨⟨⟨⟨⟨⟨⟨⟨⟨⟨⟨⟨⟨⟨⟨⟨⟨⟨⟨⟨⟨⟨⟨⟨⟨h0, h1⟩, h2⟩, h3⟩, h4⟩, h5⟩, h6⟩, h7⟩, h8⟩, h9⟩, h10⟩, h11⟩, h12⟩, h13⟩, h14⟩, h15⟩, h16⟩, h17⟩, h18⟩, h19⟩, h20⟩, h21⟩, h22⟩, h23⟩, h24⟩, h25⟩, h26⟩, h27⟩, h28⟩, h29⟩, h30⟩, h31⟩, h32⟩, h33⟩, h34⟩, h35⟩, h36⟩, h37⟩, h38⟩, h39⟩, h40⟩, h41⟩, h42⟩, h43⟩, h44⟩, h45⟩, h46⟩, h47⟩, h48⟩, h49⟩, h50⟩, h51⟩, h52⟩, h53⟩ := h
  exact ⟨h0, h1, h2, h3, h4, h5, h6, h7, h8, h9, h10, h11, h12, h13, h14, h15, h16, h17, h18, h19, h20, h21, h22, h23, h24, h25, h26, h27, h28, h29, h30, h31, h32, h33, h34, h35, h36, h37, h38, h39, h40, h41, h42, h43, h44, h45, h46, h47, h48, h49, h50, h51, h52, h53⟩
set_option maxRecDepth 100000 in
theorem pq_dec : ∀ n : Fin 48, pqB n.1 (pM n.1) (qM n.1) = true := by decide +kernel
theorem pq_all {n : Nat} (h : n < 48) : PQ n (pM n) (qM n) := pqB_ok (pq_dec ⟨n, h⟩)
end Go.Proofs.Ytdhlkhockpblhaa
namespace Go.Proofs.Ytdhlkhockpblhaa
open Go.RowKit
attribute [local irreducible] World.setCell

set_option linter.unusedSimpArgs false
set_option linter.unusedVariables false

def bil (m : Met) (u0 u1 u2 v0 v1 v2 : Int) : Int := u0 * m.aa * v0 + u0 * m.ab * v1 + u0 * m.ac * v2 + u1 * m.ab * v0 + u1 * m.bb * v1 + u1 * m.bc * v2 + u2 * m.ac * v0 + u2 * m.bc * v1 + u2 * m.cc * v2
theorem bil_gr (m : Met) (Q : Mt) (u0 u1 u2 v0 v1 v2 : Int) : bil (gr m Q) u0 u1 u2 v0 v1 v2 = bil m (Q.p00 * u0 + Q.p01 * u1 + Q.p02 * u2) (Q.p10 * u0 + Q.p11 * u1 + Q.p12 * u2) (Q.p20 * u0 + Q.p21 * u1 + Q.p22 * u2) (Q.p00 * v0 + Q.p01 * v1 + Q.p02 * v2) (Q.p10 * v0 + Q.p11 * v1 + Q.p12 * v2) (Q.p20 * v0 + Q.p21 * v1 + Q.p22 * v2) := by simp only [bil, gr]; grind
theorem back_0 {n : Nat} {P Q : Mt} (h : PQ n P Q) (x0 x1 x2 : Int) : Q.p00 * (P.p00 * x0 + P.p01 * x1 + P.p02 * x2) + Q.p01 * (P.p10 * x0 + P.p11 * x1 + P.p12 * x2) + Q.p02 * (P.p20 * x0 + P.p21 * x1 + P.p22 * x2) = x0 := by
  rw [show Q.p00 * (P.p00 * x0 + P.p01 * x1 + P.p02 * x2) + Q.p01 * (P.p10 * x0 + P.p11 * x1 + P.p12 * x2) + Q.p02 * (P.p20 * x0 + P.p21 * x1 + P.p22 * x2) = (Q.p00 * P.p00 + Q.p01 * P.p10 + Q.p02 * P.p20) * x0 + (Q.p00 * P.p01 + Q.p01 * P.p11 + Q.p02 * P.p21) * x1 + (Q.p00 * P.p02 + Q.p01 * P.p12 + Q.p02 * P.p22) * x2 from by grind, h.o00, h.o01, h.o02]
  omega
theorem back_1 {n : Nat} {P Q : Mt} (h : PQ n P Q) (x0 x1 x2 : Int) : Q.p10 * (P.p00 * x0 + P.p01 * x1 + P.p02 * x2) + Q.p11 * (P.p10 * x0 + P.p11 * x1 + P.p12 * x2) + Q.p12 * (P.p20 * x0 + P.p21 * x1 + P.p22 * x2) = x1 := by
  rw [show Q.p10 * (P.p00 * x0 + P.p01 * x1 + P.p02 * x2) + Q.p11 * (P.p10 * x0 + P.p11 * x1 + P.p12 * x2) + Q.p12 * (P.p20 * x0 + P.p21 * x1 + P.p22 * x2) = (Q.p10 * P.p00 + Q.p11 * P.p10 + Q.p12 * P.p20) * x0 + (Q.p10 * P.p01 + Q.p11 * P.p11 + Q.p12 * P.p21) * x1 + (Q.p10 * P.p02 + Q.p11 * P.p12 + Q.p12 * P.p22) * x2 from by grind, h.o10, h.o11, h.o12]
  omega
theorem back_2 {n : Nat} {P Q : Mt} (h : PQ n P Q) (x0 x1 x2 : Int) : Q.p20 * (P.p00 * x0 + P.p01 * x1 + P.p02 * x2) + Q.p21 * (P.p10 * x0 + P.p11 * x1 + P.p12 * x2) + Q.p22 * (P.p20 * x0 + P.p21 * x1 + P.p22 * x2) = x2 := by
  rw [show Q.p20 * (P.p00 * x0 + P.p01 * x1 + P.p02 * x2) + Q.p21 * (P.p10 * x0 + P.p11 * x1 + P.p12 * x2) + Q.p22 * (P.p20 * x0 + P.p21 * x1 + P.p22 * x2) = (Q.p20 * P.p00 + Q.p21 * P.p10 + Q.p22 * P.p20) * x0 + (Q.p20 * P.p01 + Q.p21 * P.p11 + Q.p22 * P.p21) * x1 + (Q.p20 * P.p02 + Q.p21 * P.p12 + Q.p22 * P.p22) * x2 from by grind, h.o20, h.o21, h.o22]
  omega
theorem bil_same {n : Nat} {P Q : Mt} (h : PQ n P Q) (m : Met) (x0 x1 x2 y0 y1 y2 : Int) : bil (gr m Q) (P.p00 * x0 + P.p01 * x1 + P.p02 * x2) (P.p10 * x0 + P.p11 * x1 + P.p12 * x2) (P.p20 * x0 + P.p21 * x1 + P.p22 * x2) (P.p00 * y0 + P.p01 * y1 + P.p02 * y2) (P.p10 * y0 + P.p11 * y1 + P.p12 * y2) (P.p20 * y0 + P.p21 * y1 + P.p22 * y2) = bil m x0 x1 x2 y0 y1 y2 := by
  rw [bil_gr, back_0 h, back_1 h, back_2 h, back_0 h, back_1 h, back_2 h]
theorem tq1 {t q : Int} (h : -11 ≤ t ∧ t ≤ 11) : (t * q).natAbs ≤ 11 * q.natAbs := by rw [Int.natAbs_mul]; exact Nat.mul_le_mul (by omega) (Nat.le_refl _)
theorem tq3 {a b c x y z : Int} (ha : -11 ≤ a ∧ a ≤ 11) (hb : -11 ≤ b ∧ b ≤ 11) (hc : -11 ≤ c ∧ c ≤ 11) (s : x.natAbs + y.natAbs + z.natAbs ≤ 5) : -55 ≤ (a * x + b * y + c * z) ∧ (a * x + b * y + c * z) ≤ 55 := by
  have e0 := tq1 (q := x) ha; have e1 := tq1 (q := y) hb; have e2 := tq1 (q := z) hc
  omega
theorem tq_bnd {n : Nat} {P Q : Mt} (h : PQ n P Q) {t0 t1 t2 t3 t4 t5 t6 t7 t8 : Int} (hb : (-11 ≤ t0 ∧ t0 ≤ 11) ∧ (-11 ≤ t1 ∧ t1 ≤ 11) ∧ (-11 ≤ t2 ∧ t2 ≤ 11) ∧ (-11 ≤ t3 ∧ t3 ≤ 11) ∧ (-11 ≤ t4 ∧ t4 ≤ 11) ∧ (-11 ≤ t5 ∧ t5 ≤ 11) ∧ (-11 ≤ t6 ∧ t6 ≤ 11) ∧ (-11 ≤ t7 ∧ t7 ≤ 11) ∧ (-11 ≤ t8 ∧ t8 ≤ 11)) : (-55 ≤ (t0 * Q.p00 + t1 * Q.p10 + t2 * Q.p20) ∧ (t0 * Q.p00 + t1 * Q.p10 + t2 * Q.p20) ≤ 55) ∧ (-55 ≤ (t0 * Q.p01 + t1 * Q.p11 + t2 * Q.p21) ∧ (t0 * Q.p01 + t1 * Q.p11 + t2 * Q.p21) ≤ 55) ∧ (-55 ≤ (t0 * Q.p02 + t1 * Q.p12 + t2 * Q.p22) ∧ (t0 * Q.p02 + t1 * Q.p12 + t2 * Q.p22) ≤ 55) ∧ (-55 ≤ (t3 * Q.p00 + t4 * Q.p10 + t5 * Q.p20) ∧ (t3 * Q.p00 + t4 * Q.p10 + t5 * Q.p20) ≤ 55) ∧ (-55 ≤ (t3 * Q.p01 + t4 * Q.p11 + t5 * Q.p21) ∧ (t3 * Q.p01 + t4 * Q.p11 + t5 * Q.p21) ≤ 55) ∧ (-55 ≤ (t3 * Q.p02 + t4 * Q.p12 + t5 * Q.p22) ∧ (t3 * Q.p02 + t4 * Q.p12 + t5 * Q.p22) ≤ 55) ∧ (-55 ≤ (t6 * Q.p00 + t7 * Q.p10 + t8 * Q.p20) ∧ (t6 * Q.p00 + t7 * Q.p10 + t8 * Q.p20) ≤ 55) ∧ (-55 ≤ (t6 * Q.p01 + t7 * Q.p11 + t8 * Q.p21) ∧ (t6 * Q.p01 + t7 * Q.p11 + t8 * Q.p21) ≤ 55) ∧ (-55 ≤ (t6 * Q.p02 + t7 * Q.p12 + t8 * Q.p22) ∧ (t6 * Q.p02 + t7 * Q.p12 + t8 * Q.p22) ≤ 55) := by
  obtain ⟨b0, b1, b2, b3, b4, b5, b6, b7, b8⟩ := hb
  exact ⟨tq3 b0 b1 b2 h.s0, tq3 b0 b1 b2 h.s1, tq3 b0 b1 b2 h.s2, tq3 b3 b4 b5 h.s0, tq3 b3 b4 b5 h.s1, tq3 b3 b4 b5 h.s2, tq3 b6 b7 b8 h.s0, tq3 b6 b7 b8 h.s1, tq3 b6 b7 b8 h.s2⟩
theorem dq_ne {n : Nat} {P Q : Mt} (h : PQ n P Q) : D9 Q ≠ 0 := by intro e; have := h.dq; rw [e] at this; omega
theorem turned_gram {Q : Mt} (t0 t1 t2 t3 t4 t5 t6 t7 t8 : Int) : gr (gram t0 t1 t2 t3 t4 t5 t6 t7 t8) Q = gram (t0 * Q.p00 + t1 * Q.p10 + t2 * Q.p20) (t0 * Q.p01 + t1 * Q.p11 + t2 * Q.p21) (t0 * Q.p02 + t1 * Q.p12 + t2 * Q.p22) (t3 * Q.p00 + t4 * Q.p10 + t5 * Q.p20) (t3 * Q.p01 + t4 * Q.p11 + t5 * Q.p21) (t3 * Q.p02 + t4 * Q.p12 + t5 * Q.p22) (t6 * Q.p00 + t7 * Q.p10 + t8 * Q.p20) (t6 * Q.p01 + t7 * Q.p11 + t8 * Q.p21) (t6 * Q.p02 + t7 * Q.p12 + t8 * Q.p22) := gram_gr t0 t1 t2 t3 t4 t5 t6 t7 t8 Q.p00 Q.p01 Q.p02 Q.p10 Q.p11 Q.p12 Q.p20 Q.p21 Q.p22
theorem turned_ok {n : Nat} {P Q : Mt} (h : PQ n P Q) {t0 t1 t2 t3 t4 t5 t6 t7 t8 : Int} (hb : (-11 ≤ t0 ∧ t0 ≤ 11) ∧ (-11 ≤ t1 ∧ t1 ≤ 11) ∧ (-11 ≤ t2 ∧ t2 ≤ 11) ∧ (-11 ≤ t3 ∧ t3 ≤ 11) ∧ (-11 ≤ t4 ∧ t4 ≤ 11) ∧ (-11 ≤ t5 ∧ t5 ≤ 11) ∧ (-11 ≤ t6 ∧ t6 ≤ 11) ∧ (-11 ≤ t7 ∧ t7 ≤ 11) ∧ (-11 ≤ t8 ∧ t8 ≤ 11)) (hd : dT t0 t1 t2 t3 t4 t5 t6 t7 t8 ≠ 0) : chk (gr (gram t0 t1 t2 t3 t4 t5 t6 t7 t8) Q) = 0 := by
  rw [turned_gram]
  refine gram_ok (tq_bnd h hb) ?_
  rw [dT_mul t0 t1 t2 t3 t4 t5 t6 t7 t8 Q.p00 Q.p01 Q.p02 Q.p10 Q.p11 Q.p12 Q.p20 Q.p21 Q.p22]
  exact Int.mul_ne_zero hd (dq_ne h)
theorem turned_det {n : Nat} {P Q : Mt} (h : PQ n P Q) (t0 t1 t2 t3 t4 t5 t6 t7 t8 : Int) : detM (gr (gram t0 t1 t2 t3 t4 t5 t6 t7 t8) Q) = detM (gram t0 t1 t2 t3 t4 t5 t6 t7 t8) := by
  rw [turned_gram, gram_det, gram_det, dT_mul t0 t1 t2 t3 t4 t5 t6 t7 t8 Q.p00 Q.p01 Q.p02 Q.p10 Q.p11 Q.p12 Q.p20 Q.p21 Q.p22]
  have e := h.dq
  have e2 : dT t0 t1 t2 t3 t4 t5 t6 t7 t8 * D9 ⟨Q.p00, Q.p01, Q.p02, Q.p10, Q.p11, Q.p12, Q.p20, Q.p21, Q.p22⟩ * (dT t0 t1 t2 t3 t4 t5 t6 t7 t8 * D9 ⟨Q.p00, Q.p01, Q.p02, Q.p10, Q.p11, Q.p12, Q.p20, Q.p21, Q.p22⟩) = dT t0 t1 t2 t3 t4 t5 t6 t7 t8 * dT t0 t1 t2 t3 t4 t5 t6 t7 t8 * (D9 Q * D9 Q) := by
    show dT t0 t1 t2 t3 t4 t5 t6 t7 t8 * D9 Q * (dT t0 t1 t2 t3 t4 t5 t6 t7 t8 * D9 Q) = _
    grind
  rw [e2, e, Int.mul_one]
theorem turned_bnd {n : Nat} {P Q : Mt} (h : PQ n P Q) {t0 t1 t2 t3 t4 t5 t6 t7 t8 : Int} (hb : (-11 ≤ t0 ∧ t0 ≤ 11) ∧ (-11 ≤ t1 ∧ t1 ≤ 11) ∧ (-11 ≤ t2 ∧ t2 ≤ 11) ∧ (-11 ≤ t3 ∧ t3 ≤ 11) ∧ (-11 ≤ t4 ∧ t4 ≤ 11) ∧ (-11 ≤ t5 ∧ t5 ≤ 11) ∧ (-11 ≤ t6 ∧ t6 ≤ 11) ∧ (-11 ≤ t7 ∧ t7 ≤ 11) ∧ (-11 ≤ t8 ∧ t8 ≤ 11)) : (-9075 ≤ (gr (gram t0 t1 t2 t3 t4 t5 t6 t7 t8) Q).aa ∧ (gr (gram t0 t1 t2 t3 t4 t5 t6 t7 t8) Q).aa ≤ 9075) ∧ (-9075 ≤ (gr (gram t0 t1 t2 t3 t4 t5 t6 t7 t8) Q).bb ∧ (gr (gram t0 t1 t2 t3 t4 t5 t6 t7 t8) Q).bb ≤ 9075) ∧ (-9075 ≤ (gr (gram t0 t1 t2 t3 t4 t5 t6 t7 t8) Q).cc ∧ (gr (gram t0 t1 t2 t3 t4 t5 t6 t7 t8) Q).cc ≤ 9075) ∧ (-9075 ≤ (gr (gram t0 t1 t2 t3 t4 t5 t6 t7 t8) Q).bc ∧ (gr (gram t0 t1 t2 t3 t4 t5 t6 t7 t8) Q).bc ≤ 9075) ∧ (-9075 ≤ (gr (gram t0 t1 t2 t3 t4 t5 t6 t7 t8) Q).ac ∧ (gr (gram t0 t1 t2 t3 t4 t5 t6 t7 t8) Q).ac ≤ 9075) ∧ (-9075 ≤ (gr (gram t0 t1 t2 t3 t4 t5 t6 t7 t8) Q).ab ∧ (gr (gram t0 t1 t2 t3 t4 t5 t6 t7 t8) Q).ab ≤ 9075) := by
  rw [turned_gram]; exact gram_bnd (tq_bnd h hb)
theorem turned_least {n : Nat} {P Q : Mt} (h : PQ n P Q) {m : Met} (h1 : chk m = 0) (h2 : chk (gr m Q) = 0) {N N' : Nat} (a1 : pick (it m N) = 6) (a2 : ∀ k, k < N → pick (it m k) < 6) (b1 : pick (it (gr m Q) N') = 6) (b2 : ∀ k, k < N' → pick (it (gr m Q) k) < 6) : lst (it (gr m Q) N') 6 = lst (it m N) 6 :=
  (min_gr rfl h.dq (chk_min h2 b1 b2).1).uniq (chk_min h1 a1 a2).1
end Go.Proofs.Ytdhlkhockpblhaa
namespace Go.Proofs.Ytdhlkhockpblhaa
open Go.RowKit
attribute [local irreducible] World.setCell

set_option linter.unusedSimpArgs false
set_option linter.unusedVariables false

theorem end_six {m : Met} (h : chk m = 0) {N : Nat} (hN : pick (it m N) = 6) (hl : ∀ k, k < N → pick (it m k) < 6) (k : Nat) (hk : k < 6) : sixE (it m N) k ≤ 0 := by
  have hc := chk_ok h
  obtain ⟨a, b⟩ := it_good hc.pd hc.sum N hl
  have := pick6 hN k hk
  rwa [six_eq a b k] at this
theorem end_least {m : Met} (h : chk m = 0) {N : Nat} (hN : pick (it m N) = 6) (hl : ∀ k, k < N → pick (it m k) < 6) : lst (it m N) 6 ≤ (it m N).aa ∧ lst (it m N) 6 ≤ (it m N).bb ∧ lst (it m N) 6 ≤ (it m N).cc := by
  have hc := chk_ok h
  obtain ⟨a, b⟩ := it_good hc.pd hc.sum N hl
  have M := lst_min a b hN
  have e1 := M.le 1 0 0 (by unfold nz; omega)
  have e2 := M.le 0 1 0 (by unfold nz; omega)
  have e3 := M.le 0 0 1 (by unfold nz; omega)
  simp only [Qf] at e1 e2 e3
  omega
theorem end_ent {m : Met} (h : chk m = 0) {N : Nat} (hN : pick (it m N) = 6) (hl : ∀ k, k < N → pick (it m k) < 6) : wrap64 (it m N).aa = (it m N).aa ∧ wrap64 (it m N).bb = (it m N).bb ∧ wrap64 (it m N).cc = (it m N).cc ∧ wrap64 (it m N).bc = (it m N).bc ∧ wrap64 (it m N).ac = (it m N).ac ∧ wrap64 (it m N).ab = (it m N).ab := by
  have hc := chk_ok h
  obtain ⟨a, b⟩ := it_good hc.pd hc.sum N hl
  exact ent_w a b
theorem end_det {m : Met} (h : chk m = 0) {N : Nat} (hN : pick (it m N) = 6) (hl : ∀ k, k < N → pick (it m k) < 6) : wrap64 (d9 (al m N).p00 (al m N).p01 (al m N).p02 (al m N).p10 (al m N).p11 (al m N).p12 (al m N).p20 (al m N).p21 (al m N).p22) = 1 - 2 * ((N : Int) % 2) := by
  have := D9_wrap (alE m N)
  rw [← al_w m N, D9_al m N hl] at this
  exact Eq.trans (show _ = wrap64 (D9 (al m N)) from rfl) (this.trans (wrapE (by omega) (by omega)))
theorem end_form {m : Met} (h : chk m = 0) {N : Nat} (hN : pick (it m N) = 6) (hl : ∀ k, k < N → pick (it m k) < 6) (hp : matC (al m N).p00 (al m N).p01 (al m N).p02 (al m N).p10 (al m N).p11 (al m N).p12 (al m N).p20 (al m N).p21 (al m N).p22 = 0) : formC (al m N).p00 (al m N).p01 (al m N).p02 (al m N).p10 (al m N).p11 (al m N).p12 (al m N).p20 (al m N).p21 (al m N).p22 = 0 := by
  have d := end_det h hN hl
  unfold matC at hp
  split at hp
  · next hb =>
    unfold formC
    rw [if_pos hb, if_pos (by omega)]
  · omega
theorem end_formbad {m : Met} {N : Nat} (hp : matC (al m N).p00 (al m N).p01 (al m N).p02 (al m N).p10 (al m N).p11 (al m N).p12 (al m N).p20 (al m N).p21 (al m N).p22 ≠ 0) : formC (al m N).p00 (al m N).p01 (al m N).p02 (al m N).p10 (al m N).p11 (al m N).p12 (al m N).p20 (al m N).p21 (al m N).p22 = 4 := by
  unfold matC at hp
  split at hp
  · exact absurd rfl hp
  · next hb => unfold formC; rw [if_neg hb]
theorem end_turned {m : Met} (h : chk m = 0) {N : Nat} (hN : pick (it m N) = 6) (hl : ∀ k, k < N → pick (it m k) < 6) (hp : matC (al m N).p00 (al m N).p01 (al m N).p02 (al m N).p10 (al m N).p11 (al m N).p12 (al m N).p20 (al m N).p21 (al m N).p22 = 0) : tmet m (al m N).p00 (al m N).p01 (al m N).p02 (al m N).p10 (al m N).p11 (al m N).p12 (al m N).p20 (al m N).p21 (al m N).p22 = it m N := by
  have hc := chk_ok h
  obtain ⟨e, _⟩ := it_gr hc.pd hc.sum N hl
  have ent := end_ent h hN hl
  have g := gr_wrap m (alE m N)
  rw [← al_w m N, ← e] at g
  have hb : (-1000 ≤ (al m N).p00 ∧ (al m N).p00 ≤ 1000) ∧ (-1000 ≤ (al m N).p01 ∧ (al m N).p01 ≤ 1000) ∧ (-1000 ≤ (al m N).p02 ∧ (al m N).p02 ≤ 1000) ∧ (-1000 ≤ (al m N).p10 ∧ (al m N).p10 ≤ 1000) ∧ (-1000 ≤ (al m N).p11 ∧ (al m N).p11 ≤ 1000) ∧ (-1000 ≤ (al m N).p12 ∧ (al m N).p12 ≤ 1000) ∧ (-1000 ≤ (al m N).p20 ∧ (al m N).p20 ≤ 1000) ∧ (-1000 ≤ (al m N).p21 ∧ (al m N).p21 ≤ 1000) ∧ (-1000 ≤ (al m N).p22 ∧ (al m N).p22 ≤ 1000) := by
    unfold matC at hp
    split at hp
    · next hb => exact hb
    · omega
  have t := tmet_gr hc hb
  have w1 : wrap64 (tmet m (al m N).p00 (al m N).p01 (al m N).p02 (al m N).p10 (al m N).p11 (al m N).p12 (al m N).p20 (al m N).p21 (al m N).p22).aa = (tmet m (al m N).p00 (al m N).p01 (al m N).p02 (al m N).p10 (al m N).p11 (al m N).p12 (al m N).p20 (al m N).p21 (al m N).p22).aa := wrap_wrap _
  have w2 : wrap64 (tmet m (al m N).p00 (al m N).p01 (al m N).p02 (al m N).p10 (al m N).p11 (al m N).p12 (al m N).p20 (al m N).p21 (al m N).p22).bb = (tmet m (al m N).p00 (al m N).p01 (al m N).p02 (al m N).p10 (al m N).p11 (al m N).p12 (al m N).p20 (al m N).p21 (al m N).p22).bb := wrap_wrap _
  have w3 : wrap64 (tmet m (al m N).p00 (al m N).p01 (al m N).p02 (al m N).p10 (al m N).p11 (al m N).p12 (al m N).p20 (al m N).p21 (al m N).p22).cc = (tmet m (al m N).p00 (al m N).p01 (al m N).p02 (al m N).p10 (al m N).p11 (al m N).p12 (al m N).p20 (al m N).p21 (al m N).p22).cc := wrap_wrap _
  have w4 : wrap64 (tmet m (al m N).p00 (al m N).p01 (al m N).p02 (al m N).p10 (al m N).p11 (al m N).p12 (al m N).p20 (al m N).p21 (al m N).p22).bc = (tmet m (al m N).p00 (al m N).p01 (al m N).p02 (al m N).p10 (al m N).p11 (al m N).p12 (al m N).p20 (al m N).p21 (al m N).p22).bc := wrap_wrap _
  have w5 : wrap64 (tmet m (al m N).p00 (al m N).p01 (al m N).p02 (al m N).p10 (al m N).p11 (al m N).p12 (al m N).p20 (al m N).p21 (al m N).p22).ac = (tmet m (al m N).p00 (al m N).p01 (al m N).p02 (al m N).p10 (al m N).p11 (al m N).p12 (al m N).p20 (al m N).p21 (al m N).p22).ac := wrap_wrap _
  have w6 : wrap64 (tmet m (al m N).p00 (al m N).p01 (al m N).p02 (al m N).p10 (al m N).p11 (al m N).p12 (al m N).p20 (al m N).p21 (al m N).p22).ab = (tmet m (al m N).p00 (al m N).p01 (al m N).p02 (al m N).p10 (al m N).p11 (al m N).p12 (al m N).p20 (al m N).p21 (al m N).p22).ab := wrap_wrap _
  have hal : (⟨(al m N).p00, (al m N).p01, (al m N).p02, (al m N).p10, (al m N).p11, (al m N).p12, (al m N).p20, (al m N).p21, (al m N).p22⟩ : Mt) = al m N := rfl
  rw [hal] at t
  rw [← t] at g
  refine Met.ext (w1.symm.trans (g.1.trans ent.1)) (w2.symm.trans (g.2.1.trans ent.2.1)) (w3.symm.trans (g.2.2.1.trans ent.2.2.1)) (w4.symm.trans (g.2.2.2.1.trans ent.2.2.2.1)) (w5.symm.trans (g.2.2.2.2.1.trans ent.2.2.2.2.1)) (w6.symm.trans (g.2.2.2.2.2.trans ent.2.2.2.2.2))
theorem bil_Q (m : Met) (i j k : Int) : bil m i j k i j k = Qf m i j k := by simp only [bil, Qf]; grind
theorem end_short {m : Met} (h : chk m = 0) {N : Nat} (hN : pick (it m N) = 6) (hl : ∀ k, k < N → pick (it m k) < 6) (i j k : Int) (hz : ¬ (i = 0 ∧ j = 0 ∧ k = 0)) : lst (it m N) 6 ≤ bil m i j k i j k := by
  rw [bil_Q]
  exact (chk_min h hN hl).1.le i j k hz
end Go.Proofs.Ytdhlkhockpblhaa
namespace Go.Proofs.Ytdhlkhockpblhaa
open Go.RowKit
attribute [local irreducible] World.setCell

set_option linter.unusedSimpArgs false
set_option linter.unusedVariables false

theorem S_it {m : Met} (h : PD m) (hS : Ssum m ≤ 600000) : ∀ k, (∀ j, j < k → pick (it m j) < 6) → Ssum (it m k) ≤ Ssum m
  | 0, _ => Int.le_refl _
  | k + 1, hl => by
    have ih := S_it h hS k (fun j hj => hl j (by omega))
    obtain ⟨a, b⟩ := it_good h hS k (fun j hj => hl j (by omega))
    have hp := hl k (by omega)
    have hs := pick_pos _ hp
    rw [six_eq a b] at hs
    have h3 := S_nx (it m k) _ hp
    show Ssum (nx _ _) ≤ _
    rw [nx_eq a b _ (by omega)]
    omega
theorem gram_11 {t0 t1 t2 t3 t4 t5 t6 t7 t8 : Int} (hb : (-11 ≤ t0 ∧ t0 ≤ 11) ∧ (-11 ≤ t1 ∧ t1 ≤ 11) ∧ (-11 ≤ t2 ∧ t2 ≤ 11) ∧ (-11 ≤ t3 ∧ t3 ≤ 11) ∧ (-11 ≤ t4 ∧ t4 ≤ 11) ∧ (-11 ≤ t5 ∧ t5 ≤ 11) ∧ (-11 ≤ t6 ∧ t6 ≤ 11) ∧ (-11 ≤ t7 ∧ t7 ≤ 11) ∧ (-11 ≤ t8 ∧ t8 ≤ 11)) : (-363 ≤ (gram t0 t1 t2 t3 t4 t5 t6 t7 t8).aa ∧ (gram t0 t1 t2 t3 t4 t5 t6 t7 t8).aa ≤ 363) ∧ (-363 ≤ (gram t0 t1 t2 t3 t4 t5 t6 t7 t8).bb ∧ (gram t0 t1 t2 t3 t4 t5 t6 t7 t8).bb ≤ 363) ∧ (-363 ≤ (gram t0 t1 t2 t3 t4 t5 t6 t7 t8).cc ∧ (gram t0 t1 t2 t3 t4 t5 t6 t7 t8).cc ≤ 363) ∧ (-363 ≤ (gram t0 t1 t2 t3 t4 t5 t6 t7 t8).bc ∧ (gram t0 t1 t2 t3 t4 t5 t6 t7 t8).bc ≤ 363) ∧ (-363 ≤ (gram t0 t1 t2 t3 t4 t5 t6 t7 t8).ac ∧ (gram t0 t1 t2 t3 t4 t5 t6 t7 t8).ac ≤ 363) ∧ (-363 ≤ (gram t0 t1 t2 t3 t4 t5 t6 t7 t8).ab ∧ (gram t0 t1 t2 t3 t4 t5 t6 t7 t8).ab ≤ 363) := by
  obtain ⟨b0, b1, b2, b3, b4, b5, b6, b7, b8⟩ := hb
  have p00 := mulb 11 11 b0 b0
  have p01 := mulb 11 11 b0 b1
  have p02 := mulb 11 11 b0 b2
  have p11 := mulb 11 11 b1 b1
  have p12 := mulb 11 11 b1 b2
  have p22 := mulb 11 11 b2 b2
  have p33 := mulb 11 11 b3 b3
  have p34 := mulb 11 11 b3 b4
  have p35 := mulb 11 11 b3 b5
  have p44 := mulb 11 11 b4 b4
  have p45 := mulb 11 11 b4 b5
  have p55 := mulb 11 11 b5 b5
  have p66 := mulb 11 11 b6 b6
  have p67 := mulb 11 11 b6 b7
  have p68 := mulb 11 11 b6 b8
  have p77 := mulb 11 11 b7 b7
  have p78 := mulb 11 11 b7 b8
  have p88 := mulb 11 11 b8 b8
  simp only [gram]
  omega
theorem sq55 {a n : Int} (h : a * a ≤ n) (hn : n ≤ 3135) : -55 ≤ a ∧ a ≤ 55 := by
  have h2 := sq_nonneg' a
  have e : (a * a).natAbs ≤ 3135 := by
    revert h h2; generalize a * a = q; intro h h2; omega
  rw [Int.natAbs_mul] at e
  have e2 : a.natAbs ≤ 55 := by
    apply Classical.byContradiction; intro hc
    have := Nat.mul_le_mul (show 56 ≤ a.natAbs by omega) (show 56 ≤ a.natAbs by omega)
    omega
  omega
theorem small_t {t0 t1 t2 t3 t4 t5 t6 t7 t8 n : Int} (ha : (gram t0 t1 t2 t3 t4 t5 t6 t7 t8).aa ≤ n) (hb : (gram t0 t1 t2 t3 t4 t5 t6 t7 t8).bb ≤ n) (hc : (gram t0 t1 t2 t3 t4 t5 t6 t7 t8).cc ≤ n) (hn : n ≤ 3135) : (-55 ≤ t0 ∧ t0 ≤ 55) ∧ (-55 ≤ t1 ∧ t1 ≤ 55) ∧ (-55 ≤ t2 ∧ t2 ≤ 55) ∧ (-55 ≤ t3 ∧ t3 ≤ 55) ∧ (-55 ≤ t4 ∧ t4 ≤ 55) ∧ (-55 ≤ t5 ∧ t5 ≤ 55) ∧ (-55 ≤ t6 ∧ t6 ≤ 55) ∧ (-55 ≤ t7 ∧ t7 ≤ 55) ∧ (-55 ≤ t8 ∧ t8 ≤ 55) := by
  simp only [gram] at ha hb hc
  have s0 := sq_nonneg' t0
  have s1 := sq_nonneg' t1
  have s2 := sq_nonneg' t2
  have s3 := sq_nonneg' t3
  have s4 := sq_nonneg' t4
  have s5 := sq_nonneg' t5
  have s6 := sq_nonneg' t6
  have s7 := sq_nonneg' t7
  have s8 := sq_nonneg' t8
  exact ⟨sq55 (n := n) (by omega) hn, sq55 (n := n) (by omega) hn, sq55 (n := n) (by omega) hn, sq55 (n := n) (by omega) hn, sq55 (n := n) (by omega) hn, sq55 (n := n) (by omega) hn, sq55 (n := n) (by omega) hn, sq55 (n := n) (by omega) hn, sq55 (n := n) (by omega) hn⟩
theorem end_chk {t0 t1 t2 t3 t4 t5 t6 t7 t8 : Int} (hb : (-11 ≤ t0 ∧ t0 ≤ 11) ∧ (-11 ≤ t1 ∧ t1 ≤ 11) ∧ (-11 ≤ t2 ∧ t2 ≤ 11) ∧ (-11 ≤ t3 ∧ t3 ≤ 11) ∧ (-11 ≤ t4 ∧ t4 ≤ 11) ∧ (-11 ≤ t5 ∧ t5 ≤ 11) ∧ (-11 ≤ t6 ∧ t6 ≤ 11) ∧ (-11 ≤ t7 ∧ t7 ≤ 11) ∧ (-11 ≤ t8 ∧ t8 ≤ 11)) (hd : dT t0 t1 t2 t3 t4 t5 t6 t7 t8 ≠ 0) {N : Nat} (hN : pick (it (gram t0 t1 t2 t3 t4 t5 t6 t7 t8) N) = 6) (hl : ∀ k, k < N → pick (it (gram t0 t1 t2 t3 t4 t5 t6 t7 t8) k) < 6) : chk (it (gram t0 t1 t2 t3 t4 t5 t6 t7 t8) N) = 0 := by
  have hc0 := gram_ok (show (-55 ≤ t0 ∧ t0 ≤ 55) ∧ (-55 ≤ t1 ∧ t1 ≤ 55) ∧ (-55 ≤ t2 ∧ t2 ≤ 55) ∧ (-55 ≤ t3 ∧ t3 ≤ 55) ∧ (-55 ≤ t4 ∧ t4 ≤ 55) ∧ (-55 ≤ t5 ∧ t5 ≤ 55) ∧ (-55 ≤ t6 ∧ t6 ≤ 55) ∧ (-55 ≤ t7 ∧ t7 ≤ 55) ∧ (-55 ≤ t8 ∧ t8 ≤ 55) from by omega) hd
  have hc := chk_ok hc0
  have g11 := gram_11 hb
  have s0 := S_it hc.pd hc.sum N hl
  have e3 := end_six hc0 hN hl 3 (by omega)
  have e4 := end_six hc0 hN hl 4 (by omega)
  have e5 := end_six hc0 hN hl 5 (by omega)
  have e0 := end_six hc0 hN hl 0 (by omega)
  have e1 := end_six hc0 hN hl 1 (by omega)
  have e2 := end_six hc0 hN hl 2 (by omega)
  obtain ⟨e, _⟩ := it_gr hc.pd hc.sum N hl
  have dd := D9_al (gram t0 t1 t2 t3 t4 t5 t6 t7 t8) N hl
  obtain ⟨Q, eQ⟩ : ∃ Q, Q = alE (gram t0 t1 t2 t3 t4 t5 t6 t7 t8) N := ⟨_, rfl⟩
  rw [← eQ] at e dd
  rw [turned_gram] at e
  rw [e] at s0 e0 e1 e2 e3 e4 e5 ⊢
  have d9 : dT (t0 * Q.p00 + t1 * Q.p10 + t2 * Q.p20) (t0 * Q.p01 + t1 * Q.p11 + t2 * Q.p21) (t0 * Q.p02 + t1 * Q.p12 + t2 * Q.p22) (t3 * Q.p00 + t4 * Q.p10 + t5 * Q.p20) (t3 * Q.p01 + t4 * Q.p11 + t5 * Q.p21) (t3 * Q.p02 + t4 * Q.p12 + t5 * Q.p22) (t6 * Q.p00 + t7 * Q.p10 + t8 * Q.p20) (t6 * Q.p01 + t7 * Q.p11 + t8 * Q.p21) (t6 * Q.p02 + t7 * Q.p12 + t8 * Q.p22) = dT t0 t1 t2 t3 t4 t5 t6 t7 t8 * D9 Q := dT_mul t0 t1 t2 t3 t4 t5 t6 t7 t8 Q.p00 Q.p01 Q.p02 Q.p10 Q.p11 Q.p12 Q.p20 Q.p21 Q.p22
  simp only [Ssum, sixE] at s0 e0 e1 e2 e3 e4 e5
  have hd2 : dT (t0 * Q.p00 + t1 * Q.p10 + t2 * Q.p20) (t0 * Q.p01 + t1 * Q.p11 + t2 * Q.p21) (t0 * Q.p02 + t1 * Q.p12 + t2 * Q.p22) (t3 * Q.p00 + t4 * Q.p10 + t5 * Q.p20) (t3 * Q.p01 + t4 * Q.p11 + t5 * Q.p21) (t3 * Q.p02 + t4 * Q.p12 + t5 * Q.p22) (t6 * Q.p00 + t7 * Q.p10 + t8 * Q.p20) (t6 * Q.p01 + t7 * Q.p11 + t8 * Q.p21) (t6 * Q.p02 + t7 * Q.p12 + t8 * Q.p22) ≠ 0 := by
    rw [d9]
    refine Int.mul_ne_zero hd ?_
    rw [dd]; omega
  obtain ⟨x0, h0⟩ : ∃ x, x = (t0 * Q.p00 + t1 * Q.p10 + t2 * Q.p20) := ⟨_, rfl⟩
  obtain ⟨x1, h1⟩ : ∃ x, x = (t0 * Q.p01 + t1 * Q.p11 + t2 * Q.p21) := ⟨_, rfl⟩
  obtain ⟨x2, h2⟩ : ∃ x, x = (t0 * Q.p02 + t1 * Q.p12 + t2 * Q.p22) := ⟨_, rfl⟩
  obtain ⟨x3, h3⟩ : ∃ x, x = (t3 * Q.p00 + t4 * Q.p10 + t5 * Q.p20) := ⟨_, rfl⟩
  obtain ⟨x4, h4⟩ : ∃ x, x = (t3 * Q.p01 + t4 * Q.p11 + t5 * Q.p21) := ⟨_, rfl⟩
  obtain ⟨x5, h5⟩ : ∃ x, x = (t3 * Q.p02 + t4 * Q.p12 + t5 * Q.p22) := ⟨_, rfl⟩
  obtain ⟨x6, h6⟩ : ∃ x, x = (t6 * Q.p00 + t7 * Q.p10 + t8 * Q.p20) := ⟨_, rfl⟩
  obtain ⟨x7, h7⟩ : ∃ x, x = (t6 * Q.p01 + t7 * Q.p11 + t8 * Q.p21) := ⟨_, rfl⟩
  obtain ⟨x8, h8⟩ : ∃ x, x = (t6 * Q.p02 + t7 * Q.p12 + t8 * Q.p22) := ⟨_, rfl⟩
  rw [← h0, ← h1, ← h2, ← h3, ← h4, ← h5, ← h6, ← h7, ← h8] at s0 e0 e1 e2 e3 e4 e5 hd2 ⊢
  exact gram_ok (small_t (n := 2178) (by omega) (by omega) (by omega) (by omega)) hd2
theorem end_pos {m : Met} (h : chk m = 0) {N : Nat} (hN : pick (it m N) = 6) (hl : ∀ k, k < N → pick (it m k) < 6) : ((it m N).bc ≤ 0 ∧ (it m N).ac ≤ 0 ∧ (it m N).ab ≤ 0) ∧ (-(it m N).aa - (it m N).ab - (it m N).ac ≤ 0 ∧ -(it m N).ab - (it m N).bb - (it m N).bc ≤ 0 ∧ -(it m N).ac - (it m N).bc - (it m N).cc ≤ 0) := by
  have g := fun k hk => end_six h hN hl k hk
  have a3 := g 3 (by omega); have a4 := g 4 (by omega); have a5 := g 5 (by omega)
  have a0 := g 0 (by omega); have a1 := g 1 (by omega); have a2 := g 2 (by omega)
  simp only [sixE] at a0 a1 a2 a3 a4 a5
  omega
end Go.Proofs.Ytdhlkhockpblhaa
