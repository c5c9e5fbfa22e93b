/-
  Plain law: edges brought down by one another: when none is shortened any more the shortest is the least vector.
-/
import Derived.Test.YtdhlkhockpblhaaRedV
namespace Go.Proofs.Ytdhlkhockpblhaa
open Go.RowKit
attribute [local irreducible] World.setCell

set_option linter.unusedSimpArgs false
set_option linter.unusedVariables false

def ad01 (n : Int) (m : Met) : Met := ⟨m.aa + n * m.ab + n * (m.ab + n * m.bb), m.bb, m.cc, m.bc, m.ac + n * m.bc, m.ab + n * m.bb⟩
def aw01 (n : Int) (m : Met) : Met := ⟨wrap64 (m.aa + n * m.ab + n * (m.ab + n * m.bb)), m.bb, m.cc, m.bc, wrap64 (m.ac + n * m.bc), wrap64 (m.ab + n * m.bb)⟩
def ad02 (n : Int) (m : Met) : Met := ⟨m.aa + n * m.ac + n * (m.ac + n * m.cc), m.bb, m.cc, m.bc, m.ac + n * m.cc, m.ab + n * m.bc⟩
def aw02 (n : Int) (m : Met) : Met := ⟨wrap64 (m.aa + n * m.ac + n * (m.ac + n * m.cc)), m.bb, m.cc, m.bc, wrap64 (m.ac + n * m.cc), wrap64 (m.ab + n * m.bc)⟩
def ad10 (n : Int) (m : Met) : Met := ⟨m.aa, m.bb + n * m.ab + n * (m.ab + n * m.aa), m.cc, m.bc + n * m.ac, m.ac, m.ab + n * m.aa⟩
def aw10 (n : Int) (m : Met) : Met := ⟨m.aa, wrap64 (m.bb + n * m.ab + n * (m.ab + n * m.aa)), m.cc, wrap64 (m.bc + n * m.ac), m.ac, wrap64 (m.ab + n * m.aa)⟩
def ad12 (n : Int) (m : Met) : Met := ⟨m.aa, m.bb + n * m.bc + n * (m.bc + n * m.cc), m.cc, m.bc + n * m.cc, m.ac, m.ab + n * m.ac⟩
def aw12 (n : Int) (m : Met) : Met := ⟨m.aa, wrap64 (m.bb + n * m.bc + n * (m.bc + n * m.cc)), m.cc, wrap64 (m.bc + n * m.cc), m.ac, wrap64 (m.ab + n * m.ac)⟩
def ad20 (n : Int) (m : Met) : Met := ⟨m.aa, m.bb, m.cc + n * m.ac + n * (m.ac + n * m.aa), m.bc + n * m.ab, m.ac + n * m.aa, m.ab⟩
def aw20 (n : Int) (m : Met) : Met := ⟨m.aa, m.bb, wrap64 (m.cc + n * m.ac + n * (m.ac + n * m.aa)), wrap64 (m.bc + n * m.ab), wrap64 (m.ac + n * m.aa), m.ab⟩
def ad21 (n : Int) (m : Met) : Met := ⟨m.aa, m.bb, m.cc + n * m.bc + n * (m.bc + n * m.bb), m.bc + n * m.bb, m.ac + n * m.ab, m.ab⟩
def aw21 (n : Int) (m : Met) : Met := ⟨m.aa, m.bb, wrap64 (m.cc + n * m.bc + n * (m.bc + n * m.bb)), wrap64 (m.bc + n * m.bb), wrap64 (m.ac + n * m.ab), m.ab⟩
def tr3 (m : Met) : Int := m.aa + m.bb + m.cc
def PDs (m : Met) : Prop := ∀ x y z, nz x y z → 0 < Qf m x y z
theorem PDs.bd {m : Met} (h : PDs m) : (0 < m.aa ∧ 0 < m.bb ∧ 0 < m.cc) ∧ ((2 * m.ab < m.aa + m.bb ∧ -(2 * m.ab) < m.aa + m.bb) ∧ (2 * m.ac < m.aa + m.cc ∧ -(2 * m.ac) < m.aa + m.cc) ∧ (2 * m.bc < m.bb + m.cc ∧ -(2 * m.bc) < m.bb + m.cc)) := by
  have a := h 1 0 0 (by unfold nz; omega); have b := h 0 1 0 (by unfold nz; omega); have c := h 0 0 1 (by unfold nz; omega)
  have d := h 1 1 0 (by unfold nz; omega); have e := h 1 (-1) 0 (by unfold nz; omega); have f := h 1 0 1 (by unfold nz; omega); have g := h 1 0 (-1) (by unfold nz; omega); have i := h 0 1 1 (by unfold nz; omega); have j := h 0 1 (-1) (by unfold nz; omega)
  simp only [Qf] at a b c d e f g i j
  omega
theorem qad01 (n : Int) (m : Met) (x y z : Int) : Qf (ad01 n m) x y z = Qf m (x) (y + n * x) (z) := by simp only [Qf, ad01]; grind
theorem qda01 (n : Int) (m : Met) (x y z : Int) : Qf m x y z = Qf (ad01 n m) (x) (y - n * x) (z) := by simp only [Qf, ad01]; grind
theorem nz01 {n x y z : Int} (h : nz x y z) : nz (x) (y + n * x) (z) := by
  unfold nz at *; intro q; obtain ⟨q0, q1, q2⟩ := q; apply h
  have e : x = 0 := q0
  rw [e, Int.mul_zero] at q1
  omega
theorem nz01' {n x y z : Int} (h : nz x y z) : nz (x) (y - n * x) (z) := by
  unfold nz at *; intro q; obtain ⟨q0, q1, q2⟩ := q; apply h
  have e : x = 0 := q0
  rw [e, Int.mul_zero] at q1
  omega
theorem pd01 {m : Met} (h : PDs m) (n : Int) : PDs (ad01 n m) := fun x y z q => by rw [qad01]; exact h _ _ _ (nz01 q)
theorem mn01 {m : Met} {n k : Int} (h : IsMin (ad01 n m) k) : IsMin m k :=
  h.turn (fun x y z => (x, y + n * x, z)) (fun x y z => (x, y - n * x, z)) (fun x y z => qad01 n m x y z) (fun x y z => qda01 n m x y z) (fun x y z h => nz01 h) (fun x y z h => nz01' h)
theorem qad02 (n : Int) (m : Met) (x y z : Int) : Qf (ad02 n m) x y z = Qf m (x) (y) (z + n * x) := by simp only [Qf, ad02]; grind
theorem qda02 (n : Int) (m : Met) (x y z : Int) : Qf m x y z = Qf (ad02 n m) (x) (y) (z - n * x) := by simp only [Qf, ad02]; grind
theorem nz02 {n x y z : Int} (h : nz x y z) : nz (x) (y) (z + n * x) := by
  unfold nz at *; intro q; obtain ⟨q0, q1, q2⟩ := q; apply h
  have e : x = 0 := q0
  rw [e, Int.mul_zero] at q2
  omega
theorem nz02' {n x y z : Int} (h : nz x y z) : nz (x) (y) (z - n * x) := by
  unfold nz at *; intro q; obtain ⟨q0, q1, q2⟩ := q; apply h
  have e : x = 0 := q0
  rw [e, Int.mul_zero] at q2
  omega
theorem pd02 {m : Met} (h : PDs m) (n : Int) : PDs (ad02 n m) := fun x y z q => by rw [qad02]; exact h _ _ _ (nz02 q)
theorem mn02 {m : Met} {n k : Int} (h : IsMin (ad02 n m) k) : IsMin m k :=
  h.turn (fun x y z => (x, y, z + n * x)) (fun x y z => (x, y, z - n * x)) (fun x y z => qad02 n m x y z) (fun x y z => qda02 n m x y z) (fun x y z h => nz02 h) (fun x y z h => nz02' h)
theorem qad10 (n : Int) (m : Met) (x y z : Int) : Qf (ad10 n m) x y z = Qf m (x + n * y) (y) (z) := by simp only [Qf, ad10]; grind
theorem qda10 (n : Int) (m : Met) (x y z : Int) : Qf m x y z = Qf (ad10 n m) (x - n * y) (y) (z) := by simp only [Qf, ad10]; grind
theorem nz10 {n x y z : Int} (h : nz x y z) : nz (x + n * y) (y) (z) := by
  unfold nz at *; intro q; obtain ⟨q0, q1, q2⟩ := q; apply h
  have e : y = 0 := q1
  rw [e, Int.mul_zero] at q0
  omega
theorem nz10' {n x y z : Int} (h : nz x y z) : nz (x - n * y) (y) (z) := by
  unfold nz at *; intro q; obtain ⟨q0, q1, q2⟩ := q; apply h
  have e : y = 0 := q1
  rw [e, Int.mul_zero] at q0
  omega
theorem pd10 {m : Met} (h : PDs m) (n : Int) : PDs (ad10 n m) := fun x y z q => by rw [qad10]; exact h _ _ _ (nz10 q)
theorem mn10 {m : Met} {n k : Int} (h : IsMin (ad10 n m) k) : IsMin m k :=
  h.turn (fun x y z => (x + n * y, y, z)) (fun x y z => (x - n * y, y, z)) (fun x y z => qad10 n m x y z) (fun x y z => qda10 n m x y z) (fun x y z h => nz10 h) (fun x y z h => nz10' h)
theorem qad12 (n : Int) (m : Met) (x y z : Int) : Qf (ad12 n m) x y z = Qf m (x) (y) (z + n * y) := by simp only [Qf, ad12]; grind
theorem qda12 (n : Int) (m : Met) (x y z : Int) : Qf m x y z = Qf (ad12 n m) (x) (y) (z - n * y) := by simp only [Qf, ad12]; grind
theorem nz12 {n x y z : Int} (h : nz x y z) : nz (x) (y) (z + n * y) := by
  unfold nz at *; intro q; obtain ⟨q0, q1, q2⟩ := q; apply h
  have e : y = 0 := q1
  rw [e, Int.mul_zero] at q2
  omega
theorem nz12' {n x y z : Int} (h : nz x y z) : nz (x) (y) (z - n * y) := by
  unfold nz at *; intro q; obtain ⟨q0, q1, q2⟩ := q; apply h
  have e : y = 0 := q1
  rw [e, Int.mul_zero] at q2
  omega
theorem pd12 {m : Met} (h : PDs m) (n : Int) : PDs (ad12 n m) := fun x y z q => by rw [qad12]; exact h _ _ _ (nz12 q)
theorem mn12 {m : Met} {n k : Int} (h : IsMin (ad12 n m) k) : IsMin m k :=
  h.turn (fun x y z => (x, y, z + n * y)) (fun x y z => (x, y, z - n * y)) (fun x y z => qad12 n m x y z) (fun x y z => qda12 n m x y z) (fun x y z h => nz12 h) (fun x y z h => nz12' h)
theorem qad20 (n : Int) (m : Met) (x y z : Int) : Qf (ad20 n m) x y z = Qf m (x + n * z) (y) (z) := by simp only [Qf, ad20]; grind
theorem qda20 (n : Int) (m : Met) (x y z : Int) : Qf m x y z = Qf (ad20 n m) (x - n * z) (y) (z) := by simp only [Qf, ad20]; grind
theorem nz20 {n x y z : Int} (h : nz x y z) : nz (x + n * z) (y) (z) := by
  unfold nz at *; intro q; obtain ⟨q0, q1, q2⟩ := q; apply h
  have e : z = 0 := q2
  rw [e, Int.mul_zero] at q0
  omega
theorem nz20' {n x y z : Int} (h : nz x y z) : nz (x - n * z) (y) (z) := by
  unfold nz at *; intro q; obtain ⟨q0, q1, q2⟩ := q; apply h
  have e : z = 0 := q2
  rw [e, Int.mul_zero] at q0
  omega
theorem pd20 {m : Met} (h : PDs m) (n : Int) : PDs (ad20 n m) := fun x y z q => by rw [qad20]; exact h _ _ _ (nz20 q)
theorem mn20 {m : Met} {n k : Int} (h : IsMin (ad20 n m) k) : IsMin m k :=
  h.turn (fun x y z => (x + n * z, y, z)) (fun x y z => (x - n * z, y, z)) (fun x y z => qad20 n m x y z) (fun x y z => qda20 n m x y z) (fun x y z h => nz20 h) (fun x y z h => nz20' h)
theorem qad21 (n : Int) (m : Met) (x y z : Int) : Qf (ad21 n m) x y z = Qf m (x) (y + n * z) (z) := by simp only [Qf, ad21]; grind
theorem qda21 (n : Int) (m : Met) (x y z : Int) : Qf m x y z = Qf (ad21 n m) (x) (y - n * z) (z) := by simp only [Qf, ad21]; grind
theorem nz21 {n x y z : Int} (h : nz x y z) : nz (x) (y + n * z) (z) := by
  unfold nz at *; intro q; obtain ⟨q0, q1, q2⟩ := q; apply h
  have e : z = 0 := q2
  rw [e, Int.mul_zero] at q1
  omega
theorem nz21' {n x y z : Int} (h : nz x y z) : nz (x) (y - n * z) (z) := by
  unfold nz at *; intro q; obtain ⟨q0, q1, q2⟩ := q; apply h
  have e : z = 0 := q2
  rw [e, Int.mul_zero] at q1
  omega
theorem pd21 {m : Met} (h : PDs m) (n : Int) : PDs (ad21 n m) := fun x y z q => by rw [qad21]; exact h _ _ _ (nz21 q)
theorem mn21 {m : Met} {n k : Int} (h : IsMin (ad21 n m) k) : IsMin m k :=
  h.turn (fun x y z => (x, y + n * z, z)) (fun x y z => (x, y - n * z, z)) (fun x y z => qad21 n m x y z) (fun x y z => qda21 n m x y z) (fun x y z h => nz21 h) (fun x y z h => nz21' h)
/-- No edge is shortened by another one, nor by both with signs. -/
structure EndC (m : Met) : Prop where
  ab1 : 2 * m.ab ≤ m.aa ∧ -(2 * m.ab) ≤ m.aa
  ab2 : 2 * m.ab ≤ m.bb ∧ -(2 * m.ab) ≤ m.bb
  ac1 : 2 * m.ac ≤ m.aa ∧ -(2 * m.ac) ≤ m.aa
  ac2 : 2 * m.ac ≤ m.cc ∧ -(2 * m.ac) ≤ m.cc
  bc1 : 2 * m.bc ≤ m.bb ∧ -(2 * m.bc) ≤ m.bb
  bc2 : 2 * m.bc ≤ m.cc ∧ -(2 * m.bc) ≤ m.cc
  s0 : 0 ≤ m.bb + m.cc + 2 * m.ab + 2 * m.ac + 2 * m.bc ∧ 0 ≤ m.bb + m.cc + 2 * m.ab - 2 * m.ac - 2 * m.bc ∧ 0 ≤ m.bb + m.cc - 2 * m.ab + 2 * m.ac - 2 * m.bc ∧ 0 ≤ m.bb + m.cc - 2 * m.ab - 2 * m.ac + 2 * m.bc
  s1 : 0 ≤ m.aa + m.cc + 2 * m.ab + 2 * m.ac + 2 * m.bc ∧ 0 ≤ m.aa + m.cc + 2 * m.ab - 2 * m.ac - 2 * m.bc ∧ 0 ≤ m.aa + m.cc - 2 * m.ab + 2 * m.ac - 2 * m.bc ∧ 0 ≤ m.aa + m.cc - 2 * m.ab - 2 * m.ac + 2 * m.bc
  s2 : 0 ≤ m.aa + m.bb + 2 * m.ab + 2 * m.ac + 2 * m.bc ∧ 0 ≤ m.aa + m.bb + 2 * m.ab - 2 * m.ac - 2 * m.bc ∧ 0 ≤ m.aa + m.bb - 2 * m.ab + 2 * m.ac - 2 * m.bc ∧ 0 ≤ m.aa + m.bb - 2 * m.ab - 2 * m.ac + 2 * m.bc
def LeAll (m : Met) (n : Int) : Prop := ∀ x y z, nz x y z → n ≤ Qf m x y z
theorem LeAll.via {m m' : Met} {n : Int} (g : Int → Int → Int → Int × Int × Int) (hg : ∀ x y z, Qf m x y z = Qf m' (g x y z).1 (g x y z).2.1 (g x y z).2.2) (ng : ∀ x y z, nz x y z → nz (g x y z).1 (g x y z).2.1 (g x y z).2.2) (h : LeAll m' n) : LeAll m n :=
  fun x y z q => by rw [hg]; exact h _ _ _ (ng x y z q)
theorem end_obt {m : Met} (h : EndC m) (n : Int) (ha : n ≤ m.aa) (hb : n ≤ m.bb) (hc : n ≤ m.cc) (h1 : m.bc ≤ 0) (h2 : m.ac ≤ 0) (h3 : m.ab ≤ 0) : LeAll m n := by
  obtain ⟨q1, q2, q3, q4, q5, q6, s0, s1, s2⟩ := h
  refine fun x y z hz => seven_le (fun k hk => ?_) ?_ x y z hz
  · rcases (by omega : k = 0 ∨ k = 1 ∨ k = 2 ∨ k = 3 ∨ k = 4 ∨ k = 5) with rfl | rfl | rfl | rfl | rfl | rfl <;> simp only [sixE] <;> omega
  · unfold sev7; simp only [Qf]; omega

theorem end_bc {m : Met} (h : EndC m) (n : Int) (ha : n ≤ m.aa) (hb : n ≤ m.bb) (hc : n ≤ m.cc) (h1 : 0 ≤ m.bc) (h2 : 0 ≤ m.ac) (h3 : 0 ≤ m.ab) (l1 : m.bc ≤ m.ac) (l2 : m.bc ≤ m.ab) : LeAll m n := by
  obtain ⟨q1, q2, q3, q4, q5, q6, s0, s1, s2⟩ := h
  refine LeAll.via (m' := ⟨0 + m.aa - m.ab - m.ab + m.bb, 0 + m.bb, 0 + m.cc, 0 - m.bc, 0 - m.ac + m.bc, 0 + m.ab - m.bb⟩) (fun x y z => ((1) * x + (0) * y + (0) * z, (1) * x + (1) * y + (0) * z, (0) * x + (0) * y + (-1) * z)) (fun x y z => by simp only [Qf]; grind) (fun x y z q => by unfold nz at *; dsimp only; omega) (fun x y z hz => seven_le (fun k hk => ?_) ?_ x y z hz)
  · rcases (by omega : k = 0 ∨ k = 1 ∨ k = 2 ∨ k = 3 ∨ k = 4 ∨ k = 5) with rfl | rfl | rfl | rfl | rfl | rfl <;> simp only [sixE] <;> omega
  · unfold sev7; simp only [Qf]; omega
theorem end_ac {m : Met} (h : EndC m) (n : Int) (ha : n ≤ m.aa) (hb : n ≤ m.bb) (hc : n ≤ m.cc) (h1 : 0 ≤ m.bc) (h2 : 0 ≤ m.ac) (h3 : 0 ≤ m.ab) (l1 : m.ac ≤ m.bc) (l2 : m.ac ≤ m.ab) : LeAll m n := by
  obtain ⟨q1, q2, q3, q4, q5, q6, s0, s1, s2⟩ := h
  refine LeAll.via (m' := ⟨0 + m.aa - m.ab - m.ab + m.bb, 0 + m.aa, 0 + m.cc, 0 - m.ac, 0 + m.ac - m.bc, 0 - m.aa + m.ab⟩) (fun x y z => ((0) * x + (1) * y + (0) * z, (1) * x + (1) * y + (0) * z, (0) * x + (0) * y + (-1) * z)) (fun x y z => by simp only [Qf]; grind) (fun x y z q => by unfold nz at *; dsimp only; omega) (fun x y z hz => seven_le (fun k hk => ?_) ?_ x y z hz)
  · rcases (by omega : k = 0 ∨ k = 1 ∨ k = 2 ∨ k = 3 ∨ k = 4 ∨ k = 5) with rfl | rfl | rfl | rfl | rfl | rfl <;> simp only [sixE] <;> omega
  · unfold sev7; simp only [Qf]; omega
theorem end_ab {m : Met} (h : EndC m) (n : Int) (ha : n ≤ m.aa) (hb : n ≤ m.bb) (hc : n ≤ m.cc) (h1 : 0 ≤ m.bc) (h2 : 0 ≤ m.ac) (h3 : 0 ≤ m.ab) (l1 : m.ab ≤ m.bc) (l2 : m.ab ≤ m.ac) : LeAll m n := by
  obtain ⟨q1, q2, q3, q4, q5, q6, s0, s1, s2⟩ := h
  refine LeAll.via (m' := ⟨0 + m.bb - m.bc - m.bc + m.cc, 0 + m.bb, 0 + m.aa, 0 - m.ab, 0 + m.ab - m.ac, 0 - m.bb + m.bc⟩) (fun x y z => ((0) * x + (0) * y + (1) * z, (0) * x + (1) * y + (1) * z, (-1) * x + (0) * y + (0) * z)) (fun x y z => by simp only [Qf]; grind) (fun x y z q => by unfold nz at *; dsimp only; omega) (fun x y z hz => seven_le (fun k hk => ?_) ?_ x y z hz)
  · rcases (by omega : k = 0 ∨ k = 1 ∨ k = 2 ∨ k = 3 ∨ k = 4 ∨ k = 5) with rfl | rfl | rfl | rfl | rfl | rfl <;> simp only [sixE] <;> omega
  · unfold sev7; simp only [Qf]; omega
theorem end_acu {m : Met} (h : EndC m) (n : Int) (ha : n ≤ m.aa) (hb : n ≤ m.bb) (hc : n ≤ m.cc) (h1 : 0 ≤ m.bc) (h2 : 0 ≤ m.ac) (h3 : 0 ≤ m.ab) : LeAll m n := by
  rcases (by omega : (m.bc ≤ m.ac ∧ m.bc ≤ m.ab) ∨ (m.ac ≤ m.bc ∧ m.ac ≤ m.ab) ∨ (m.ab ≤ m.bc ∧ m.ab ≤ m.ac)) with ⟨a, b⟩ | ⟨a, b⟩ | ⟨a, b⟩
  · exact end_bc h n ha hb hc h1 h2 h3 a b
  · exact end_ac h n ha hb hc h1 h2 h3 a b
  · exact end_ab h n ha hb hc h1 h2 h3 a b
theorem flip_a {m : Met} {n : Int} (h : LeAll ⟨m.aa, m.bb, m.cc, m.bc, -m.ac, -m.ab⟩ n) : LeAll m n :=
  LeAll.via (m' := ⟨m.aa, m.bb, m.cc, m.bc, -m.ac, -m.ab⟩) (fun x y z => (-x, y, z)) (fun x y z => by simp only [Qf]; grind) (fun x y z q => by unfold nz at *; dsimp only; omega) h
theorem EndC.a {m : Met} (h : EndC m) : EndC ⟨m.aa, m.bb, m.cc, m.bc, -m.ac, -m.ab⟩ := by
  obtain ⟨q1, q2, q3, q4, q5, q6, s0, s1, s2⟩ := h
  constructor <;> dsimp only <;> omega
theorem flip_b {m : Met} {n : Int} (h : LeAll ⟨m.aa, m.bb, m.cc, -m.bc, m.ac, -m.ab⟩ n) : LeAll m n :=
  LeAll.via (m' := ⟨m.aa, m.bb, m.cc, -m.bc, m.ac, -m.ab⟩) (fun x y z => (x, -y, z)) (fun x y z => by simp only [Qf]; grind) (fun x y z q => by unfold nz at *; dsimp only; omega) h
theorem EndC.b {m : Met} (h : EndC m) : EndC ⟨m.aa, m.bb, m.cc, -m.bc, m.ac, -m.ab⟩ := by
  obtain ⟨q1, q2, q3, q4, q5, q6, s0, s1, s2⟩ := h
  constructor <;> dsimp only <;> omega
theorem flip_c {m : Met} {n : Int} (h : LeAll ⟨m.aa, m.bb, m.cc, -m.bc, -m.ac, m.ab⟩ n) : LeAll m n :=
  LeAll.via (m' := ⟨m.aa, m.bb, m.cc, -m.bc, -m.ac, m.ab⟩) (fun x y z => (x, y, -z)) (fun x y z => by simp only [Qf]; grind) (fun x y z q => by unfold nz at *; dsimp only; omega) h
theorem EndC.c {m : Met} (h : EndC m) : EndC ⟨m.aa, m.bb, m.cc, -m.bc, -m.ac, m.ab⟩ := by
  obtain ⟨q1, q2, q3, q4, q5, q6, s0, s1, s2⟩ := h
  constructor <;> dsimp only <;> omega
theorem end_le {m : Met} (h : EndC m) (n : Int) (ha : n ≤ m.aa) (hb : n ≤ m.bb) (hc : n ≤ m.cc) : LeAll m n := by
  rcases Int.le_total m.bc 0 with h1 | h1 <;> rcases Int.le_total m.ac 0 with h2 | h2 <;> rcases Int.le_total m.ab 0 with h3 | h3
  · exact end_obt h n ha hb hc h1 h2 h3
  · exact flip_c (end_acu h.c n ha hb hc (by dsimp only; omega) (by dsimp only; omega) h3)
  · exact flip_b (end_acu h.b n ha hb hc (by dsimp only; omega) h2 (by dsimp only; omega))
  · exact flip_a (end_obt h.a n ha hb hc h1 (by dsimp only; omega) (by dsimp only; omega))
  · exact flip_a (end_acu h.a n ha hb hc h1 (by dsimp only; omega) (by dsimp only; omega))
  · exact flip_b (end_obt h.b n ha hb hc (by dsimp only; omega) h2 (by dsimp only; omega))
  · exact flip_c (end_obt h.c n ha hb hc (by dsimp only; omega) (by dsimp only; omega) h3)
  · exact end_acu h n ha hb hc h1 h2 h3
theorem end_min {m : Met} (h : EndC m) : IsMin m (min (min m.aa m.bb) m.cc) := by
  refine ⟨?_, end_le h _ (by omega) (by omega) (by omega)⟩
  rcases (by omega : min (min m.aa m.bb) m.cc = m.aa ∨ min (min m.aa m.bb) m.cc = m.bb ∨ min (min m.aa m.bb) m.cc = m.cc) with q | q | q <;> rw [q]
  · exact ⟨1, 0, 0, by unfold nz; omega, by simp only [Qf]; omega⟩
  · exact ⟨0, 1, 0, by unfold nz; omega, by simp only [Qf]; omega⟩
  · exact ⟨0, 0, 1, by unfold nz; omega, by simp only [Qf]; omega⟩
/-- What the reduction keeps. -/
structure St (m0 m : Met) : Prop where
  pd : PDs m
  tr : tr3 m ≤ 300000
  mn : ∀ n, IsMin m n → IsMin m0 n
/-- a over b, to the nearest whole number. -/
theorem near_end {a b : Int} (hb : 0 < b) (h : (2 * a + b) / (2 * b) = 0 ∨ 0 ≤ -((2 * a + b) / (2 * b)) * a + -((2 * a + b) / (2 * b)) * (a + -((2 * a + b) / (2 * b)) * b)) : 2 * a ≤ b ∧ -(2 * a) ≤ b := by
  have hd := Int.mul_ediv_add_emod (2 * a + b) (2 * b)
  have h0 := Int.emod_nonneg (2 * a + b) (show 2 * b ≠ 0 by omega)
  have h1 := Int.emod_lt_of_pos (2 * a + b) (show 0 < 2 * b by omega)
  generalize (2 * a + b) / (2 * b) = q at *
  generalize (2 * a + b) % (2 * b) = r at *
  have e : -q * a + -q * (a + -q * b) = q * (b * (1 - q) - r) := by
    have : 2 * a = 2 * b * q + r - b := by omega
    have e2 : -q * a + -q * (a + -q * b) = -q * (2 * a) + q * q * b := by grind
    rw [e2, this]; grind
  rw [e] at h
  rcases Int.lt_trichotomy q 0 with hq | hq | hq
  · exfalso
    have p1 : 0 < b * (1 - q) - r := by
      have := Int.mul_le_mul_of_nonneg_left (show (2:Int) ≤ 1 - q by omega) (show (0:Int) ≤ b by omega)
      omega
    have := Int.mul_neg_of_neg_of_pos hq p1
    rcases h with h | h <;> omega
  · subst hq
    rw [Int.mul_zero] at hd
    omega
  · have p1 : 0 ≤ b * (1 - q) - r := by
      rcases h with h | h
      · omega
      · rcases Int.lt_or_le (b * (1 - q) - r) 0 with hn | hn
        · have := Int.mul_neg_of_pos_of_neg hq hn; omega
        · exact hn
    have p2 := Int.mul_le_mul_of_nonneg_left (show (1 - q : Int) ≤ 0 by omega) (show (0:Int) ≤ b by omega)
    rw [Int.mul_zero] at p2
    have r0 : r = 0 := by omega
    have bq : b * (1 - q) = 0 := by omega
    rcases Int.mul_eq_zero.1 bq with z | z
    · omega
    · have : q = 1 := by omega
      subst this
      omega

end Go.Proofs.Ytdhlkhockpblhaa
