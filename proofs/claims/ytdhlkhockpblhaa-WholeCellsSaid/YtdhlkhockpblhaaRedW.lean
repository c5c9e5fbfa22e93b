/-
  Plain law: the matrix of all steps, modulo 2^64; determinants; volumes.
-/
import Derived.Test.YtdhlkhockpblhaaRedT
namespace Go.Proofs.Ytdhlkhockpblhaa
open Go.RowKit
attribute [local irreducible] World.setCell

set_option linter.unusedSimpArgs false
set_option linter.unusedVariables false

def mulE (a b : Mt) : Mt := ⟨a.p00 * b.p00 + a.p01 * b.p10 + a.p02 * b.p20, a.p00 * b.p01 + a.p01 * b.p11 + a.p02 * b.p21, a.p00 * b.p02 + a.p01 * b.p12 + a.p02 * b.p22, a.p10 * b.p00 + a.p11 * b.p10 + a.p12 * b.p20, a.p10 * b.p01 + a.p11 * b.p11 + a.p12 * b.p21, a.p10 * b.p02 + a.p11 * b.p12 + a.p12 * b.p22, a.p20 * b.p00 + a.p21 * b.p10 + a.p22 * b.p20, a.p20 * b.p01 + a.p21 * b.p11 + a.p22 * b.p21, a.p20 * b.p02 + a.p21 * b.p12 + a.p22 * b.p22⟩
def wM (p : Mt) : Mt := ⟨wrap64 p.p00, wrap64 p.p01, wrap64 p.p02, wrap64 p.p10, wrap64 p.p11, wrap64 p.p12, wrap64 p.p20, wrap64 p.p21, wrap64 p.p22⟩
def alE (m : Met) : Nat → Mt
  | 0 => one
  | k + 1 => mulE (alE m k) (qk (pick (it m k)))
theorem wrapM3 (x y z a b c : Int) : wrap64 (wrap64 x * a + wrap64 y * b + wrap64 z * c) = wrap64 (x * a + y * b + z * c) := wrap3 x y z a b c
theorem mulW_w (p q : Mt) : mulW (wM p) q = wM (mulE p q) := by
  simp only [mulW, wM, mulE, wrapM3]
theorem al_w (m : Met) : ∀ k, al m k = wM (alE m k)
  | 0 => by show one = wM one; simp only [one, wM, Mt.mk.injEq]; decide +kernel
  | k + 1 => by show mulW (al m k) _ = wM (mulE (alE m k) _); rw [al_w m k, mulW_w]
def D9 (p : Mt) : Int := p.p00 * p.p11 * p.p22 - p.p00 * p.p12 * p.p21 + (p.p01 * p.p12 * p.p20 - p.p01 * p.p10 * p.p22) + (p.p02 * p.p10 * p.p21 - p.p02 * p.p11 * p.p20)
def gr (m : Met) (p : Mt) : Met := ⟨(m.aa * p.p00 * p.p00 + m.bb * p.p10 * p.p10 + m.cc * p.p20 * p.p20 + m.bc * (p.p10 * p.p20 + p.p20 * p.p10) + m.ac * (p.p00 * p.p20 + p.p20 * p.p00) + m.ab * (p.p00 * p.p10 + p.p10 * p.p00)), (m.aa * p.p01 * p.p01 + m.bb * p.p11 * p.p11 + m.cc * p.p21 * p.p21 + m.bc * (p.p11 * p.p21 + p.p21 * p.p11) + m.ac * (p.p01 * p.p21 + p.p21 * p.p01) + m.ab * (p.p01 * p.p11 + p.p11 * p.p01)), (m.aa * p.p02 * p.p02 + m.bb * p.p12 * p.p12 + m.cc * p.p22 * p.p22 + m.bc * (p.p12 * p.p22 + p.p22 * p.p12) + m.ac * (p.p02 * p.p22 + p.p22 * p.p02) + m.ab * (p.p02 * p.p12 + p.p12 * p.p02)), (m.aa * p.p01 * p.p02 + m.bb * p.p11 * p.p12 + m.cc * p.p21 * p.p22 + m.bc * (p.p11 * p.p22 + p.p21 * p.p12) + m.ac * (p.p01 * p.p22 + p.p21 * p.p02) + m.ab * (p.p01 * p.p12 + p.p11 * p.p02)), (m.aa * p.p00 * p.p02 + m.bb * p.p10 * p.p12 + m.cc * p.p20 * p.p22 + m.bc * (p.p10 * p.p22 + p.p20 * p.p12) + m.ac * (p.p00 * p.p22 + p.p20 * p.p02) + m.ab * (p.p00 * p.p12 + p.p10 * p.p02)), (m.aa * p.p00 * p.p01 + m.bb * p.p10 * p.p11 + m.cc * p.p20 * p.p21 + m.bc * (p.p10 * p.p21 + p.p20 * p.p11) + m.ac * (p.p00 * p.p21 + p.p20 * p.p01) + m.ab * (p.p00 * p.p11 + p.p10 * p.p01))⟩
theorem gr_one (m : Met) : gr m one = m := by
  obtain ⟨aa, bb, cc, bc, ac, ab⟩ := m
  simp only [gr, one, Met.mk.injEq]
  omega
theorem gr_mul (m : Met) (p : Mt) (k : Nat) (hk : k < 6) : gr m (mulE p (qk k)) = nxE k (gr m p) := by
  rcases (by omega : k = 0 ∨ k = 1 ∨ k = 2 ∨ k = 3 ∨ k = 4 ∨ k = 5) with rfl | rfl | rfl | rfl | rfl | rfl <;> simp only [gr, mulE, qk, nxE, Met.mk.injEq] <;> refine ⟨?_, ?_, ?_, ?_, ?_, ?_⟩ <;> grind
theorem D9_mul (p : Mt) (k : Nat) (hk : k < 6) : D9 (mulE p (qk k)) = -D9 p := by
  rcases (by omega : k = 0 ∨ k = 1 ∨ k = 2 ∨ k = 3 ∨ k = 4 ∨ k = 5) with rfl | rfl | rfl | rfl | rfl | rfl <;> simp only [D9, mulE, qk] <;> grind
theorem det_nx (m : Met) (k : Nat) (hk : k < 6) : detP (nxE k m).aa (nxE k m).bb (nxE k m).cc (nxE k m).bc (nxE k m).ac (nxE k m).ab = detP m.aa m.bb m.cc m.bc m.ac m.ab := by
  rcases (by omega : k = 0 ∨ k = 1 ∨ k = 2 ∨ k = 3 ∨ k = 4 ∨ k = 5) with rfl | rfl | rfl | rfl | rfl | rfl <;> simp only [detP, nxE] <;> grind
theorem D9_al (m : Met) : ∀ k, (∀ j, j < k → pick (it m j) < 6) → D9 (alE m k) = 1 - 2 * ((k : Int) % 2)
  | 0, _ => by show D9 one = 1 - 2 * (((0 : Nat) : Int) % 2); decide
  | k + 1, hl => by
    show D9 (mulE _ _) = _
    rw [D9_mul _ _ (hl k (by omega)), D9_al m k (fun j hj => hl j (by omega))]
    omega
theorem it_gr {m : Met} (h : PD m) (hS : Ssum m ≤ 600000) : ∀ k, (∀ j, j < k → pick (it m j) < 6) → it m k = gr m (alE m k) ∧ detP (it m k).aa (it m k).bb (it m k).cc (it m k).bc (it m k).ac (it m k).ab = detP m.aa m.bb m.cc m.bc m.ac m.ab
  | 0, _ => ⟨(gr_one m).symm, rfl⟩
  | k + 1, hl => by
    obtain ⟨e, d⟩ := it_gr h hS k (fun j hj => hl j (by omega))
    obtain ⟨a, b⟩ := it_good h hS k (fun j hj => hl j (by omega))
    have hp := hl k (by omega)
    have e1 : it m (k + 1) = nxE (pick (it m k)) (it m k) := nx_eq a b _ (by omega)
    constructor
    · rw [e1]
      show _ = gr m (mulE _ _)
      rw [gr_mul _ _ _ hp, ← e]
    · rw [e1, det_nx _ _ hp, d]
theorem wrap_bv (x : Int) : wrap64 x = (BitVec.ofInt 64 x).toInt := by
  rw [BitVec.toInt_ofInt]
  unfold wrap64
  rw [Int.bmod_def]
  split <;> omega
theorem bv_wrap (x : Int) : BitVec.ofInt 64 (wrap64 x) = BitVec.ofInt 64 x := by
  obtain ⟨k, h⟩ := wrap_mod x
  rw [h, BitVec.ofInt_add, BitVec.ofInt_mul]
  have : BitVec.ofInt 64 18446744073709551616 = 0 := by decide
  rw [this]; simp
theorem wrap_congr {x y : Int} (h : BitVec.ofInt 64 x = BitVec.ofInt 64 y) : wrap64 x = wrap64 y := by rw [wrap_bv, wrap_bv y, h]
theorem D9_wrap (p : Mt) : wrap64 (D9 (wM p)) = wrap64 (D9 p) := by
  refine wrap_congr ?_
  simp only [D9, wM, Int.sub_eq_add_neg, BitVec.ofInt_add, BitVec.ofInt_mul, BitVec.ofInt_neg, bv_wrap]
theorem gr_wrap (m : Met) (p : Mt) : wrap64 (gr m (wM p)).aa = wrap64 (gr m p).aa ∧ wrap64 (gr m (wM p)).bb = wrap64 (gr m p).bb ∧ wrap64 (gr m (wM p)).cc = wrap64 (gr m p).cc ∧ wrap64 (gr m (wM p)).bc = wrap64 (gr m p).bc ∧ wrap64 (gr m (wM p)).ac = wrap64 (gr m p).ac ∧ wrap64 (gr m (wM p)).ab = wrap64 (gr m p).ab := by
  simp only [gr, wM]
  refine ⟨?_, ?_, ?_, ?_, ?_, ?_⟩ <;> refine wrap_congr ?_ <;> simp only [BitVec.ofInt_add, BitVec.ofInt_mul, bv_wrap]
theorem ent_w {m : Met} (h : PD m) (hS : Ssum m ≤ 600000) : wrap64 m.aa = m.aa ∧ wrap64 m.bb = m.bb ∧ wrap64 m.cc = m.cc ∧ wrap64 m.bc = m.bc ∧ wrap64 m.ac = m.ac ∧ wrap64 m.ab = m.ab := by
  have f := h.facts
  unfold Ssum at hS
  refine ⟨wrapE ?_ ?_, wrapE ?_ ?_, wrapE ?_ ?_, wrapE ?_ ?_, wrapE ?_ ?_, wrapE ?_ ?_⟩ <;> omega
theorem pick6 {m : Met} (h : pick m = 6) (k : Nat) (hk : k < 6) : wrap64 (sixE m k) ≤ 0 := by
  revert h
  unfold pick
  rcases (by omega : k = 0 ∨ k = 1 ∨ k = 2 ∨ k = 3 ∨ k = 4 ∨ k = 5) with rfl | rfl | rfl | rfl | rfl | rfl <;> simp only [sixE] <;> (repeat' split) <;> omega
end Go.Proofs.Ytdhlkhockpblhaa
