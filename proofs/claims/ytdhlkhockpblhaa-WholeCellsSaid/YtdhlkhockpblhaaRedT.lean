/-
  Plain law: the steps end; each makes the sum of the squares less.
-/
import Derived.Test.YtdhlkhockpblhaaRedP
namespace Go.Proofs.Ytdhlkhockpblhaa
open Go.RowKit
attribute [local irreducible] World.setCell

set_option linter.unusedSimpArgs false
set_option linter.unusedVariables false

def nxE (k : Nat) (m : Met) : Met :=
  match k with
  | 0 => ⟨m.aa + m.bb + 2 * m.ab, m.bb, m.cc, (-1) * m.bc, m.bc + m.ac, (-1) * m.bb + (-1) * m.ab⟩
  | 1 => ⟨m.aa, m.aa + m.bb + 2 * m.ab, m.cc, m.bc + m.ac, (-1) * m.ac, (-1) * m.aa + (-1) * m.ab⟩
  | 2 => ⟨m.aa, m.bb, m.aa + m.cc + 2 * m.ac, m.bc + m.ab, (-1) * m.aa + (-1) * m.ac, (-1) * m.ab⟩
  | 3 => ⟨m.aa, m.aa + m.bb + 2 * m.ab, m.aa + m.cc + 2 * m.ac, m.aa + m.bc + m.ac + m.ab, (-1) * m.aa + (-1) * m.ac, (-1) * m.aa + (-1) * m.ab⟩
  | 4 => ⟨m.aa + m.bb + 2 * m.ab, m.bb, m.bb + m.cc + 2 * m.bc, (-1) * m.bb + (-1) * m.bc, m.bb + m.bc + m.ac + m.ab, (-1) * m.bb + (-1) * m.ab⟩
  | 5 => ⟨m.aa + m.cc + 2 * m.ac, m.bb + m.cc + 2 * m.bc, m.cc, (-1) * m.cc + (-1) * m.bc, (-1) * m.cc + (-1) * m.ac, m.cc + m.bc + m.ac + m.ab⟩
  | _ => ⟨m.aa, m.bb, m.cc, m.bc, m.ac, m.ab⟩
def Qf (m : Met) (x y z : Int) : Int := m.aa * x * x + m.bb * y * y + m.cc * z * z + 2 * (m.bc * y * z) + 2 * (m.ac * x * z) + 2 * (m.ab * x * y)
def PD (m : Met) : Prop := ∀ x y z : Int, 0 ≤ Qf m x y z
def Ssum (m : Met) : Int := m.aa + m.bb + m.cc + m.bc + m.ac + m.ab
theorem Q_nx (m : Met) (k : Nat) (hk : k ≤ 6) (x y z : Int) : Qf (nxE k m) x y z = Qf m ((qk k).p00 * x + (qk k).p01 * y + (qk k).p02 * z) ((qk k).p10 * x + (qk k).p11 * y + (qk k).p12 * z) ((qk k).p20 * x + (qk k).p21 * y + (qk k).p22 * z) := by
  rcases (by omega : k = 0 ∨ k = 1 ∨ k = 2 ∨ k = 3 ∨ k = 4 ∨ k = 5 ∨ k = 6) with rfl | rfl | rfl | rfl | rfl | rfl | rfl <;> simp only [nxE, qk, Qf] <;> grind
theorem PD.nx {m : Met} (h : PD m) (k : Nat) (hk : k ≤ 6) : PD (nxE k m) := fun x y z => by rw [Q_nx m k hk]; exact h _ _ _
theorem PD.facts {m : Met} (h : PD m) : 0 ≤ m.aa ∧ 0 ≤ m.bb ∧ 0 ≤ m.cc ∧ 0 ≤ m.aa + m.bb + m.cc + 2 * m.bc + 2 * m.ac + 2 * m.ab ∧ (0 ≤ m.aa + m.bb + 2 * m.ab ∧ 0 ≤ m.aa + m.bb - 2 * m.ab) ∧ (0 ≤ m.aa + m.cc + 2 * m.ac ∧ 0 ≤ m.aa + m.cc - 2 * m.ac) ∧ (0 ≤ m.bb + m.cc + 2 * m.bc ∧ 0 ≤ m.bb + m.cc - 2 * m.bc) := by
  have a := h 1 0 0; have b := h 0 1 0; have c := h 0 0 1; have d := h 1 1 1
  have e1 := h 1 1 0; have e2 := h 1 (-1) 0; have f1 := h 1 0 1; have f2 := h 1 0 (-1); have g1 := h 0 1 1; have g2 := h 0 1 (-1)
  simp only [Qf] at a b c d e1 e2 f1 f2 g1 g2
  omega
theorem wrapE {x : Int} (h1 : -9223372036854775808 ≤ x) (h2 : x < 9223372036854775808) : wrap64 x = x := by unfold wrap64; omega
theorem nx_eq {m : Met} (h : PD m) (hS : Ssum m ≤ 600000) (k : Nat) (hk : k ≤ 6) : nx k m = nxE k m := by
  have f := h.facts
  unfold Ssum at hS
  have b1 : m.aa ≤ 1200000 := by omega
  have b2 : m.bb ≤ 1200000 := by omega
  have b3 : m.cc ≤ 1200000 := by omega
  have b4 : -1200000 ≤ m.bc ∧ m.bc ≤ 1200000 := by omega
  have b5 : -1200000 ≤ m.ac ∧ m.ac ≤ 1200000 := by omega
  have b6 : -1200000 ≤ m.ab ∧ m.ab ≤ 1200000 := by omega
  rcases (by omega : k = 0 ∨ k = 1 ∨ k = 2 ∨ k = 3 ∨ k = 4 ∨ k = 5 ∨ k = 6) with rfl | rfl | rfl | rfl | rfl | rfl | rfl <;> simp only [nx, nxE, Met.mk.injEq] <;> refine ⟨wrapE ?_ ?_, wrapE ?_ ?_, wrapE ?_ ?_, wrapE ?_ ?_, wrapE ?_ ?_, wrapE ?_ ?_⟩ <;> omega
def sixE (m : Met) (k : Nat) : Int :=
  match k with
  | 0 => m.bc
  | 1 => m.ac
  | 2 => m.ab
  | 3 => -m.aa - m.ab - m.ac
  | 4 => -m.bb - m.ab - m.bc
  | _ => -m.cc - m.ac - m.bc
theorem S_nx (m : Met) (k : Nat) (hk : k < 6) : Ssum (nxE k m) = Ssum m - sixE m k := by
  rcases (by omega : k = 0 ∨ k = 1 ∨ k = 2 ∨ k = 3 ∨ k = 4 ∨ k = 5) with rfl | rfl | rfl | rfl | rfl | rfl <;> simp only [nxE, Ssum, sixE] <;> omega
theorem pick_pos (m : Met) (h : pick m < 6) : 0 < wrap64 (sixE m (pick m)) := by
  revert h
  unfold pick
  by_cases h0 : 0 < wrap64 (m.bc)
  · rw [if_pos h0]; intro _; exact h0
  rw [if_neg h0]
  by_cases h1 : 0 < wrap64 (m.ac)
  · rw [if_pos h1]; intro _; exact h1
  rw [if_neg h1]
  by_cases h2 : 0 < wrap64 (m.ab)
  · rw [if_pos h2]; intro _; exact h2
  rw [if_neg h2]
  by_cases h3 : 0 < wrap64 (-m.aa - m.ab - m.ac)
  · rw [if_pos h3]; intro _; exact h3
  rw [if_neg h3]
  by_cases h4 : 0 < wrap64 (-m.bb - m.ab - m.bc)
  · rw [if_pos h4]; intro _; exact h4
  rw [if_neg h4]
  by_cases h5 : 0 < wrap64 (-m.cc - m.ac - m.bc)
  · rw [if_pos h5]; intro _; exact h5
  rw [if_neg h5]
  intro h; omega
theorem six_eq {m : Met} (h : PD m) (hS : Ssum m ≤ 600000) (k : Nat) : wrap64 (sixE m k) = sixE m k := by
  have f := h.facts
  unfold Ssum at hS
  have b1 : m.aa ≤ 1200000 := by omega
  have b2 : m.bb ≤ 1200000 := by omega
  have b3 : m.cc ≤ 1200000 := by omega
  have b4 : -1200000 ≤ m.bc ∧ m.bc ≤ 1200000 := by omega
  have b5 : -1200000 ≤ m.ac ∧ m.ac ≤ 1200000 := by omega
  have b6 : -1200000 ≤ m.ab ∧ m.ab ≤ 1200000 := by omega
  unfold sixE
  split <;> exact wrapE (by omega) (by omega)
theorem it_shift (m : Met) : ∀ k, it m (k + 1) = it (nx (pick m) m) k
  | 0 => rfl
  | k + 1 => by
    show nx (pick (it m (k + 1))) (it m (k + 1)) = nx (pick (it (nx (pick m) m) k)) (it (nx (pick m) m) k)
    rw [it_shift m k]
theorem steps_end : ∀ (n : Nat) (m : Met), PD m → Ssum m ≤ n → n ≤ 600000 → ∃ N, N ≤ n ∧ pick (it m N) = 6 ∧ ∀ k, k < N → pick (it m k) < 6
  | 0, m, h, hS, hn => by
    by_cases hp : pick m < 6
    · have hs := pick_pos m hp
      rw [six_eq h (by omega)] at hs
      have h2 := (h.nx (pick m) (by omega)).facts
      have h3 := S_nx m (pick m) hp
      unfold Ssum at h3 hS
      omega
    · exact ⟨0, by omega, by have := pick_le m; show pick m = 6; omega, fun k hk => absurd hk (by omega)⟩
  | n + 1, m, h, hS, hn => by
    by_cases hp : pick m < 6
    · have hs := pick_pos m hp
      rw [six_eq h (by omega)] at hs
      have h3 := S_nx m (pick m) hp
      have h1 := nx_eq h (by omega) (pick m) (by omega)
      obtain ⟨N, a, b, c⟩ := steps_end n (nx (pick m) m) (by rw [h1]; exact h.nx _ (by omega)) (by rw [h1]; omega) (by omega)
      refine ⟨N + 1, by omega, by rw [it_shift]; exact b, fun k hk => ?_⟩
      cases k with
      | zero => exact hp
      | succ k => rw [it_shift]; exact c k (by omega)
    · exact ⟨0, by omega, by have := pick_le m; show pick m = 6; omega, fun k hk => absurd hk (by omega)⟩
theorem it_good {m : Met} (h : PD m) (hS : Ssum m ≤ 600000) : ∀ k, (∀ j, j < k → pick (it m j) < 6) → PD (it m k) ∧ Ssum (it m k) ≤ 600000
  | 0, _ => ⟨h, hS⟩
  | k + 1, hl => by
    obtain ⟨a, b⟩ := it_good h hS k (fun j hj => hl j (by omega))
    have hp := hl k (by omega)
    have hs := pick_pos _ hp
    rw [six_eq a b] at hs
    have h3 := S_nx (it m k) _ hp
    show PD (nx _ _) ∧ Ssum (nx _ _) ≤ 600000
    rw [nx_eq a b _ (by omega)]
    exact ⟨a.nx _ (by omega), by omega⟩
theorem mul3_b (x y z : Int) (h1 : -100000 ≤ x) (h2 : x ≤ 100000) (h3 : -100000 ≤ y) (h4 : y ≤ 100000) (h5 : -100000 ≤ z) (h6 : z ≤ 100000) : -1000000000000000 ≤ x * y * z ∧ x * y * z ≤ 1000000000000000 := by
  have h : (x * y * z).natAbs ≤ 100000 * 100000 * 100000 := by rw [Int.natAbs_mul, Int.natAbs_mul]; exact Nat.mul_le_mul (Nat.mul_le_mul (by omega) (by omega)) (by omega)
  omega
theorem sq_nonneg' (x : Int) : 0 ≤ x * x := by
  rcases Int.le_total 0 x with h | h
  · exact Int.mul_nonneg h h
  · exact Int.mul_nonneg_of_nonpos_of_nonpos h h
structure Chk (m : Met) : Prop where
  a1 : 1 ≤ m.aa
  a2 : m.aa ≤ 100000
  b1 : 1 ≤ m.bb
  b2 : m.bb ≤ 100000
  c1 : 1 ≤ m.cc
  c2 : m.cc ≤ 100000
  d1 : -100000 ≤ m.bc
  d2 : m.bc ≤ 100000
  e1 : -100000 ≤ m.ac
  e2 : m.ac ≤ 100000
  f1 : -100000 ≤ m.ab
  f2 : m.ab ≤ 100000
  minor : 0 < m.aa * m.bb - m.ab * m.ab
  det : 0 < detP m.aa m.bb m.cc m.bc m.ac m.ab
  detb : detP m.aa m.bb m.cc m.bc m.ac m.ab ≤ 6000000000000000
theorem chk_ok {m : Met} (h : chk m = 0) : Chk m := by
  obtain ⟨aa, bb, cc, bc, ac, ab⟩ := m
  unfold chk checkC at h
  dsimp only at h
  split at h
  · rename_i hr
    obtain ⟨⟨⟨p1, p2⟩, ⟨p3, p4⟩, p5, p6⟩, ⟨p7, p8⟩, ⟨p9, p10⟩, p11, p12⟩ := hr
    split at h
    · omega
    · rename_i hm
      have q1 := mul3_b aa bb cc (by omega) p2 (by omega) p4 (by omega) p6
      have q2 := mul3_b bc ac ab p7 p8 p9 p10 p11 p12
      have q3 := mul3_b aa bc bc (by omega) p2 p7 p8 p7 p8
      have q4 := mul3_b bb ac ac (by omega) p4 p9 p10 p9 p10
      have q5 := mul3_b cc ab ab (by omega) p6 p11 p12 p11 p12
      have ed : detP aa bb cc bc ac ab = aa * bb * cc + 2 * (bc * ac * ab) - aa * bc * bc - bb * ac * ac - cc * ab * ab := by unfold detP; grind
      have hw : wrap64 (detP aa bb cc bc ac ab) = detP aa bb cc bc ac ab := wrapE (by omega) (by omega)
      have m1 : 0 < aa * bb - ab * ab := by omega
      have m2 : 0 < detP aa bb cc bc ac ab := by omega
      have m3 : detP aa bb cc bc ac ab ≤ 6000000000000000 := by omega
      exact ⟨p1, p2, p3, p4, p5, p6, p7, p8, p9, p10, p11, p12, m1, m2, m3⟩
  · omega
theorem pd_ident (aa bb cc bc ac ab x y z : Int) : aa * (aa * bb - ab * ab) * Qf ⟨aa, bb, cc, bc, ac, ab⟩ x y z =
    (aa * bb - ab * ab) * ((aa * x + ab * y + ac * z) * (aa * x + ab * y + ac * z)) + ((aa * bb - ab * ab) * y + (aa * bc - ab * ac) * z) * ((aa * bb - ab * ab) * y + (aa * bc - ab * ac) * z) + aa * detP aa bb cc bc ac ab * (z * z) := by
  unfold Qf detP
  dsimp only
  grind
theorem Chk.pd {m : Met} (h : Chk m) : PD m := by
  intro x y z
  obtain ⟨aa, bb, cc, bc, ac, ab⟩ := m
  have hm := h.minor; have hd := h.det; have ha := h.a1
  dsimp only at hm hd ha
  have e := pd_ident aa bb cc bc ac ab x y z
  have t1 := Int.mul_nonneg (Int.le_of_lt hm) (sq_nonneg' (aa * x + ab * y + ac * z))
  have t2 := sq_nonneg' ((aa * bb - ab * ab) * y + (aa * bc - ab * ac) * z)
  have t3 := Int.mul_nonneg (Int.mul_nonneg (by omega : 0 ≤ aa) (Int.le_of_lt hd)) (sq_nonneg' z)
  have hp : 0 < aa * (aa * bb - ab * ab) := Int.mul_pos (by omega) hm
  rcases Int.lt_or_le (Qf ⟨aa, bb, cc, bc, ac, ab⟩ x y z) 0 with hn | hn
  · have := Int.mul_neg_of_pos_of_neg hp hn
    omega
  · exact hn
theorem Chk.sum {m : Met} (h : Chk m) : Ssum m ≤ 600000 := by
  obtain ⟨h1, h2, h3, h4, h5, h6, h7, h8, h9, h10, h11, h12, _, _, _⟩ := h
  unfold Ssum; omega
theorem chk_end {m : Met} (h : chk m = 0) : ∃ N, N ≤ 600000 ∧ pick (it m N) = 6 ∧ ∀ k, k < N → pick (it m k) < 6 :=
  steps_end 600000 m (chk_ok h).pd (chk_ok h).sum (by omega)

end Go.Proofs.Ytdhlkhockpblhaa
