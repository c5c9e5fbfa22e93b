/-
  Plain law: the least of all vectors of a lattice.
-/
import Derived.Test.YtdhlkhockpblhaaRedW
import Derived.Test.YtdhlkhockpblhaaRedQ
namespace Go.Proofs.Ytdhlkhockpblhaa
open Go.RowKit
attribute [local irreducible] World.setCell

set_option linter.unusedSimpArgs false
set_option linter.unusedVariables false

def nz (x y z : Int) : Prop := ¬ (x = 0 ∧ y = 0 ∧ z = 0)
/-- n is the least that a vector but nought has. -/
structure IsMin (m : Met) (n : Int) : Prop where
  at' : ∃ x y z, nz x y z ∧ Qf m x y z = n
  le : ∀ x y z, nz x y z → n ≤ Qf m x y z
theorem IsMin.uniq {m : Met} {a b : Int} (h : IsMin m a) (g : IsMin m b) : a = b := by
  obtain ⟨x, y, z, h1, h2⟩ := h.at'
  obtain ⟨x', y', z', g1, g2⟩ := g.at'
  have a1 := h.le _ _ _ g1
  have a2 := g.le _ _ _ h1
  omega
theorem IsMin.turn {m m' : Met} {n : Int} (f g : Int → Int → Int → Int × Int × Int) (hf : ∀ x y z, Qf m' x y z = Qf m (f x y z).1 (f x y z).2.1 (f x y z).2.2) (hg : ∀ x y z, Qf m x y z = Qf m' (g x y z).1 (g x y z).2.1 (g x y z).2.2)
    (nf : ∀ x y z, nz x y z → nz (f x y z).1 (f x y z).2.1 (f x y z).2.2) (ngz : ∀ x y z, nz x y z → nz (g x y z).1 (g x y z).2.1 (g x y z).2.2) (h : IsMin m' n) : IsMin m n := by
  have hmin := h.le
  obtain ⟨x, y, z, h1, h2⟩ := h.at'
  exact ⟨⟨_, _, _, nf x y z h1, by rw [← hf]; exact h2⟩, fun x y z h => by rw [hg]; exact hmin _ _ _ (ngz _ _ _ h) ⟩
theorem min_0 {m : Met} {n : Int} (h : IsMin (nxE 0 m) n) : IsMin m n :=
  h.turn (fun x y z => ((1) * x + (0) * y + (0) * z, (1) * x + (-1) * y + (0) * z, (0) * x + (0) * y + (1) * z)) (fun x y z => ((1) * x + (0) * y + (0) * z, (1) * x + (-1) * y + (0) * z, (0) * x + (0) * y + (1) * z)) (fun x y z => by simp only [Qf, nxE]; grind) (fun x y z => by simp only [Qf, nxE]; grind) (fun x y z h => by unfold nz at *; dsimp only; omega) (fun x y z h => by unfold nz at *; dsimp only; omega)
theorem min_1 {m : Met} {n : Int} (h : IsMin (nxE 1 m) n) : IsMin m n :=
  h.turn (fun x y z => ((-1) * x + (1) * y + (0) * z, (0) * x + (1) * y + (0) * z, (0) * x + (0) * y + (1) * z)) (fun x y z => ((-1) * x + (1) * y + (0) * z, (0) * x + (1) * y + (0) * z, (0) * x + (0) * y + (1) * z)) (fun x y z => by simp only [Qf, nxE]; grind) (fun x y z => by simp only [Qf, nxE]; grind) (fun x y z h => by unfold nz at *; dsimp only; omega) (fun x y z h => by unfold nz at *; dsimp only; omega)
theorem min_2 {m : Met} {n : Int} (h : IsMin (nxE 2 m) n) : IsMin m n :=
  h.turn (fun x y z => ((-1) * x + (0) * y + (1) * z, (0) * x + (1) * y + (0) * z, (0) * x + (0) * y + (1) * z)) (fun x y z => ((-1) * x + (0) * y + (1) * z, (0) * x + (1) * y + (0) * z, (0) * x + (0) * y + (1) * z)) (fun x y z => by simp only [Qf, nxE]; grind) (fun x y z => by simp only [Qf, nxE]; grind) (fun x y z h => by unfold nz at *; dsimp only; omega) (fun x y z h => by unfold nz at *; dsimp only; omega)
theorem min_3 {m : Met} {n : Int} (h : IsMin (nxE 3 m) n) : IsMin m n :=
  h.turn (fun x y z => ((-1) * x + (1) * y + (1) * z, (0) * x + (1) * y + (0) * z, (0) * x + (0) * y + (1) * z)) (fun x y z => ((-1) * x + (1) * y + (1) * z, (0) * x + (1) * y + (0) * z, (0) * x + (0) * y + (1) * z)) (fun x y z => by simp only [Qf, nxE]; grind) (fun x y z => by simp only [Qf, nxE]; grind) (fun x y z h => by unfold nz at *; dsimp only; omega) (fun x y z h => by unfold nz at *; dsimp only; omega)
theorem min_4 {m : Met} {n : Int} (h : IsMin (nxE 4 m) n) : IsMin m n :=
  h.turn (fun x y z => ((1) * x + (0) * y + (0) * z, (1) * x + (-1) * y + (1) * z, (0) * x + (0) * y + (1) * z)) (fun x y z => ((1) * x + (0) * y + (0) * z, (1) * x + (-1) * y + (1) * z, (0) * x + (0) * y + (1) * z)) (fun x y z => by simp only [Qf, nxE]; grind) (fun x y z => by simp only [Qf, nxE]; grind) (fun x y z h => by unfold nz at *; dsimp only; omega) (fun x y z h => by unfold nz at *; dsimp only; omega)
theorem min_5 {m : Met} {n : Int} (h : IsMin (nxE 5 m) n) : IsMin m n :=
  h.turn (fun x y z => ((1) * x + (0) * y + (0) * z, (0) * x + (1) * y + (0) * z, (1) * x + (1) * y + (-1) * z)) (fun x y z => ((1) * x + (0) * y + (0) * z, (0) * x + (1) * y + (0) * z, (1) * x + (1) * y + (-1) * z)) (fun x y z => by simp only [Qf, nxE]; grind) (fun x y z => by simp only [Qf, nxE]; grind) (fun x y z h => by unfold nz at *; dsimp only; omega) (fun x y z h => by unfold nz at *; dsimp only; omega)
theorem min_nx {m : Met} {n : Int} (k : Nat) (hk : k < 6) (h : IsMin (nxE k m) n) : IsMin m n := by
  rcases (by omega : k = 0 ∨ k = 1 ∨ k = 2 ∨ k = 3 ∨ k = 4 ∨ k = 5) with rfl | rfl | rfl | rfl | rfl | rfl
  · exact min_0 h
  · exact min_1 h
  · exact min_2 h
  · exact min_3 h
  · exact min_4 h
  · exact min_5 h
theorem min_it {m : Met} (h : PD m) (hS : Ssum m ≤ 600000) {n : Int} : ∀ k, (∀ j, j < k → pick (it m j) < 6) → IsMin (it m k) n → IsMin m n
  | 0, _, g => g
  | k + 1, hl, g => by
    obtain ⟨a, b⟩ := it_good h hS k (fun j hj => hl j (by omega))
    have hp := hl k (by omega)
    have e1 : it m (k + 1) = nxE (pick (it m k)) (it m k) := nx_eq a b _ (by omega)
    rw [e1] at g
    exact min_it h hS k (fun j hj => hl j (by omega)) (min_nx _ hp g)
/-- 1 from 1 on, else 0. -/
def ind (x : Int) : Int := if 1 ≤ x then 1 else 0
theorem ind_sq (x y : Int) : (ind x - ind y) * (ind x - ind y) ≤ (x - y) * (x - y) := by
  have key : ∀ d : Int, d ≠ 0 → 1 ≤ d * d := fun d hd => by
    have h1 : 0 < (d * d).natAbs := by rw [Int.natAbs_mul]; exact Nat.mul_pos (by omega) (by omega)
    have h2 := sq_nonneg' d
    omega
  have h0 := sq_nonneg' (x - y)
  unfold ind
  by_cases hx : 1 ≤ x <;> by_cases hy : 1 ≤ y <;> simp only [hx, hy, if_true, if_false]
  · simpa using h0
  · have := key (x - y) (by omega); simpa using this
  · have := key (x - y) (by omega); simpa using this
  · simpa using h0
theorem Q_sell (m : Met) (x y z : Int) : Qf m x y z = -(sixE m 0) * ((y - z) * (y - z)) + -(sixE m 1) * ((x - z) * (x - z)) + -(sixE m 2) * ((x - y) * (x - y)) + -(sixE m 3) * ((x - 0) * (x - 0)) + -(sixE m 4) * ((y - 0) * (y - 0)) + -(sixE m 5) * ((z - 0) * (z - 0)) := by
  simp only [Qf, sixE]; grind
theorem Q_ind {m : Met} (h : ∀ k, k < 6 → sixE m k ≤ 0) (x y z : Int) : Qf m (ind x) (ind y) (ind z) ≤ Qf m x y z := by
  rw [Q_sell, Q_sell]
  have i0 : ind 0 = 0 := rfl
  have a := fun k (hk : k < 6) (p q : Int) => Int.mul_le_mul_of_nonneg_left (ind_sq p q) (show 0 ≤ -(sixE m k) by have := h k hk; omega)
  have a0 := a 0 (by omega) y z; have a1 := a 1 (by omega) x z; have a2 := a 2 (by omega) x y
  have a3 := a 3 (by omega) x 0; have a4 := a 4 (by omega) y 0; have a5 := a 5 (by omega) z 0
  rw [i0] at a3 a4 a5
  omega
theorem Q_neg (m : Met) (x y z : Int) : Qf m (-x) (-y) (-z) = Qf m x y z := by simp only [Qf]; grind
theorem ind01 (x : Int) : ind x = 0 ∨ ind x = 1 := by unfold ind; split; exact Or.inr rfl; exact Or.inl rfl
/-- The seven, without wraps. -/
def sev7 (m : Met) (n : Int) : Prop := n ≤ Qf m 1 0 0 ∧ n ≤ Qf m 0 1 0 ∧ n ≤ Qf m 0 0 1 ∧ n ≤ Qf m 1 1 1 ∧ n ≤ Qf m 1 1 0 ∧ n ≤ Qf m 1 0 1 ∧ n ≤ Qf m 0 1 1
theorem seven_pos {m : Met} (h : ∀ k, k < 6 → sixE m k ≤ 0) {n : Int} (g : sev7 m n) (x y z : Int) (hz : 1 ≤ x ∨ 1 ≤ y ∨ 1 ≤ z) : n ≤ Qf m x y z := by
  refine Int.le_trans ?_ (Q_ind h x y z)
  obtain ⟨g1, g2, g3, g4, g5, g6, g7⟩ := g
  have hne : ¬ (ind x = 0 ∧ ind y = 0 ∧ ind z = 0) := by
    rintro ⟨p, q, r⟩
    unfold ind at p q r
    split at p <;> split at q <;> split at r <;> omega
  rcases ind01 x with p | p <;> rcases ind01 y with q | q <;> rcases ind01 z with r | r <;> rw [p, q, r] at hne ⊢ <;> first | assumption | (exact absurd ⟨rfl, rfl, rfl⟩ hne)
theorem seven_le {m : Met} (h : ∀ k, k < 6 → sixE m k ≤ 0) {n : Int} (g : sev7 m n) (x y z : Int) (hz : nz x y z) : n ≤ Qf m x y z := by
  unfold nz at hz
  by_cases hp : 1 ≤ x ∨ 1 ≤ y ∨ 1 ≤ z
  · exact seven_pos h g x y z hp
  · rw [← Q_neg]
    exact seven_pos h g _ _ _ (by omega)
theorem lst_min {m : Met} (h : PD m) (hS : Ssum m ≤ 600000) (hp : pick m = 6) : IsMin m (lst m 6) := by
  have f := h.facts
  have hS' := hS
  unfold Ssum at hS'
  have e1 : sev m 1 = Qf m 0 1 0 := by simp only [sev, Qf]; rw [wrapE] <;> omega
  have e2 : sev m 2 = Qf m 0 0 1 := by simp only [sev, Qf]; rw [wrapE] <;> omega
  have e3 : sev m 3 = Qf m 1 1 1 := by simp only [sev, Qf]; rw [wrapE] <;> omega
  have e4 : sev m 4 = Qf m 1 1 0 := by simp only [sev, Qf]; rw [wrapE] <;> omega
  have e5 : sev m 5 = Qf m 1 0 1 := by simp only [sev, Qf]; rw [wrapE] <;> omega
  have e6 : sev m 6 = Qf m 0 1 1 := by simp only [sev, Qf]; rw [wrapE] <;> omega
  have e0 : m.aa = Qf m 1 0 0 := by simp only [Qf]; omega
  have hl : lst m 6 = min (min (min (min (min (min (Qf m 1 0 0) (Qf m 0 1 0)) (Qf m 0 0 1)) (Qf m 1 1 1)) (Qf m 1 1 0)) (Qf m 1 0 1)) (Qf m 0 1 1) := by
    show min (min (min (min (min (min m.aa (sev m 1)) (sev m 2)) (sev m 3)) (sev m 4)) (sev m 5)) (sev m 6) = _
    rw [e1, e2, e3, e4, e5, e6, ← e0]
  have hs : ∀ k, k < 6 → sixE m k ≤ 0 := fun k hk => by have := pick6 hp k hk; rw [six_eq h hS] at this; exact this
  refine ⟨?_, fun x y z hz => seven_le hs ?_ x y z hz⟩
  · rw [hl]
    rcases (by omega : ∀ a b c d e f g : Int, (min (min (min (min (min (min a b) c) d) e) f) g = a ∨ min (min (min (min (min (min a b) c) d) e) f) g = b ∨ min (min (min (min (min (min a b) c) d) e) f) g = c ∨ min (min (min (min (min (min a b) c) d) e) f) g = d ∨ min (min (min (min (min (min a b) c) d) e) f) g = e ∨ min (min (min (min (min (min a b) c) d) e) f) g = f ∨ min (min (min (min (min (min a b) c) d) e) f) g = g)) (Qf m 1 0 0) (Qf m 0 1 0) (Qf m 0 0 1) (Qf m 1 1 1) (Qf m 1 1 0) (Qf m 1 0 1) (Qf m 0 1 1) with q | q | q | q | q | q | q <;> rw [q] <;> exact ⟨_, _, _, by unfold nz; omega, rfl⟩
  · rw [hl]; unfold sev7; omega
theorem Chk.spd {m : Met} (h : Chk m) (x y z : Int) (hz : nz x y z) : 0 < Qf m x y z := by
  obtain ⟨aa, bb, cc, bc, ac, ab⟩ := m
  have hp := h.pd x y z
  have hm := h.minor; have hd := h.det; have ha := h.a1
  dsimp only at hm hd ha
  rcases Int.lt_or_le 0 (Qf ⟨aa, bb, cc, bc, ac, ab⟩ x y z) with hn | hn
  · exact hn
  exfalso
  have q0 : Qf ⟨aa, bb, cc, bc, ac, ab⟩ x y z = 0 := by omega
  have e := pd_ident aa bb cc bc ac ab x y z
  rw [q0, Int.mul_zero] at e
  have t1 := Int.mul_nonneg (Int.le_of_lt hm) (sq_nonneg' (aa * x + ab * y + ac * z))
  have t2 := sq_nonneg' ((aa * bb - ab * ab) * y + (aa * bc - ab * ac) * z)
  have t3 := Int.mul_nonneg (Int.mul_nonneg (by omega : 0 ≤ aa) (Int.le_of_lt hd)) (sq_nonneg' z)
  have sq0 : ∀ d : Int, d * d = 0 → d = 0 := fun d hd => by rcases Int.mul_eq_zero.1 hd with q | q <;> exact q
  have z3 : aa * detP aa bb cc bc ac ab * (z * z) = 0 := by omega
  have zz : z = 0 := by
    rcases Int.mul_eq_zero.1 z3 with q | q
    · rcases Int.mul_eq_zero.1 q with q | q <;> omega
    · exact sq0 z q
  subst zz
  have z2 : ((aa * bb - ab * ab) * y + (aa * bc - ab * ac) * 0) * ((aa * bb - ab * ab) * y + (aa * bc - ab * ac) * 0) = 0 := by omega
  have y0 : y = 0 := by
    have := sq0 _ z2
    rw [Int.mul_zero, Int.add_zero] at this
    rcases Int.mul_eq_zero.1 this with q | q
    · omega
    · exact q
  subst y0
  have z1 : (aa * bb - ab * ab) * ((aa * x + ab * 0 + ac * 0) * (aa * x + ab * 0 + ac * 0)) = 0 := by omega
  have x0 : x = 0 := by
    rcases Int.mul_eq_zero.1 z1 with q | q
    · omega
    · have := sq0 _ q
      rw [Int.mul_zero, Int.mul_zero, Int.add_zero, Int.add_zero] at this
      rcases Int.mul_eq_zero.1 this with q | q
      · omega
      · exact q
  exact hz ⟨x0, rfl, rfl⟩
/-- The least of a metric that Check lets in. -/
theorem chk_min {m : Met} (h : chk m = 0) {N : Nat} (hN : pick (it m N) = 6) (hl : ∀ k, k < N → pick (it m k) < 6) : IsMin m (lst (it m N) 6) ∧ 1 ≤ lst (it m N) 6 := by
  have hc := chk_ok h
  obtain ⟨a, b⟩ := it_good hc.pd hc.sum N hl
  have g := min_it hc.pd hc.sum N hl (lst_min a b hN)
  refine ⟨g, ?_⟩
  obtain ⟨x, y, z, g1, g2⟩ := g.at'
  have := hc.spd x y z g1
  omega
end Go.Proofs.Ytdhlkhockpblhaa
