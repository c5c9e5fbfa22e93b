/-
  Plain law: other edges of the same lattice have the same least vector.
-/
import Derived.Test.YtdhlkhockpblhaaRedV
import Derived.Test.YtdhlkhockpblhaaRedTa
namespace Go.Proofs.Ytdhlkhockpblhaa
open Go.RowKit
attribute [local irreducible] World.setCell

set_option linter.unusedSimpArgs false
set_option linter.unusedVariables false

def tmet (m : Met) (p00 p01 p02 p10 p11 p12 p20 p21 p22 : Int) : Met := ⟨wrap64 ((p00 * m.aa + p10 * m.ab + p20 * m.ac) * p00 + (p00 * m.ab + p10 * m.bb + p20 * m.bc) * p10 + (p00 * m.ac + p10 * m.bc + p20 * m.cc) * p20), wrap64 ((p01 * m.aa + p11 * m.ab + p21 * m.ac) * p01 + (p01 * m.ab + p11 * m.bb + p21 * m.bc) * p11 + (p01 * m.ac + p11 * m.bc + p21 * m.cc) * p21), wrap64 ((p02 * m.aa + p12 * m.ab + p22 * m.ac) * p02 + (p02 * m.ab + p12 * m.bb + p22 * m.bc) * p12 + (p02 * m.ac + p12 * m.bc + p22 * m.cc) * p22), wrap64 ((p01 * m.aa + p11 * m.ab + p21 * m.ac) * p02 + (p01 * m.ab + p11 * m.bb + p21 * m.bc) * p12 + (p01 * m.ac + p11 * m.bc + p21 * m.cc) * p22), wrap64 ((p00 * m.aa + p10 * m.ab + p20 * m.ac) * p02 + (p00 * m.ab + p10 * m.bb + p20 * m.bc) * p12 + (p00 * m.ac + p10 * m.bc + p20 * m.cc) * p22), wrap64 ((p00 * m.aa + p10 * m.ab + p20 * m.ac) * p01 + (p00 * m.ab + p10 * m.bb + p20 * m.bc) * p11 + (p00 * m.ac + p10 * m.bc + p20 * m.cc) * p21)⟩
theorem mulb {x y : Int} (a b : Nat) (hx : -(a : Int) ≤ x ∧ x ≤ a) (hy : -(b : Int) ≤ y ∧ y ≤ b) : -((a * b : Nat) : Int) ≤ x * y ∧ x * y ≤ ((a * b : Nat) : Int) := by
  have h : (x * y).natAbs ≤ a * b := by rw [Int.natAbs_mul]; exact Nat.mul_le_mul (by omega) (by omega)
  omega
theorem ent {t0 t1 t2 a0 a1 a2 b0 b1 b2 c0 c1 c2 p0 p1 p2 : Int} (ht0 : -1000 ≤ t0 ∧ t0 ≤ 1000) (ht1 : -1000 ≤ t1 ∧ t1 ≤ 1000) (ht2 : -1000 ≤ t2 ∧ t2 ≤ 1000) (ha0 : -100000 ≤ a0 ∧ a0 ≤ 100000) (ha1 : -100000 ≤ a1 ∧ a1 ≤ 100000) (ha2 : -100000 ≤ a2 ∧ a2 ≤ 100000) (hb0 : -100000 ≤ b0 ∧ b0 ≤ 100000) (hb1 : -100000 ≤ b1 ∧ b1 ≤ 100000) (hb2 : -100000 ≤ b2 ∧ b2 ≤ 100000) (hc0 : -100000 ≤ c0 ∧ c0 ≤ 100000) (hc1 : -100000 ≤ c1 ∧ c1 ≤ 100000) (hc2 : -100000 ≤ c2 ∧ c2 ≤ 100000) (hp0 : -1000 ≤ p0 ∧ p0 ≤ 1000) (hp1 : -1000 ≤ p1 ∧ p1 ≤ 1000) (hp2 : -1000 ≤ p2 ∧ p2 ≤ 1000) : wrap64 ((t0 * a0 + t1 * a1 + t2 * a2) * p0 + (t0 * b0 + t1 * b1 + t2 * b2) * p1 + (t0 * c0 + t1 * c1 + t2 * c2) * p2) = (t0 * a0 + t1 * a1 + t2 * a2) * p0 + (t0 * b0 + t1 * b1 + t2 * b2) * p1 + (t0 * c0 + t1 * c1 + t2 * c2) * p2 := by
  have m1 := fun (x y : Int) hx hy => mulb (x := x) (y := y) 1000 100000 hx hy
  have q1 := m1 _ _ ht0 ha0; have q2 := m1 _ _ ht1 ha1; have q3 := m1 _ _ ht2 ha2
  have q4 := m1 _ _ ht0 hb0; have q5 := m1 _ _ ht1 hb1; have q6 := m1 _ _ ht2 hb2
  have q7 := m1 _ _ ht0 hc0; have q8 := m1 _ _ ht1 hc1; have q9 := m1 _ _ ht2 hc2
  have r1 := mulb (x := t0 * a0 + t1 * a1 + t2 * a2) (y := p0) 300000000 1000 (by omega) hp0
  have r2 := mulb (x := t0 * b0 + t1 * b1 + t2 * b2) (y := p1) 300000000 1000 (by omega) hp1
  have r3 := mulb (x := t0 * c0 + t1 * c1 + t2 * c2) (y := p2) 300000000 1000 (by omega) hp2
  exact wrapE (by omega) (by omega)
theorem tmet_gr {m : Met} (hm : Chk m) {p00 p01 p02 p10 p11 p12 p20 p21 p22 : Int} (hp : (-1000 ≤ p00 ∧ p00 ≤ 1000) ∧ (-1000 ≤ p01 ∧ p01 ≤ 1000) ∧ (-1000 ≤ p02 ∧ p02 ≤ 1000) ∧ (-1000 ≤ p10 ∧ p10 ≤ 1000) ∧ (-1000 ≤ p11 ∧ p11 ≤ 1000) ∧ (-1000 ≤ p12 ∧ p12 ≤ 1000) ∧ (-1000 ≤ p20 ∧ p20 ≤ 1000) ∧ (-1000 ≤ p21 ∧ p21 ≤ 1000) ∧ (-1000 ≤ p22 ∧ p22 ≤ 1000)) : tmet m p00 p01 p02 p10 p11 p12 p20 p21 p22 = gr m ⟨p00, p01, p02, p10, p11, p12, p20, p21, p22⟩ := by
  obtain ⟨aa, bb, cc, bc, ac, ab⟩ := m
  obtain ⟨h1, h2, h3, h4, h5, h6, h7, h8, h9, h10, h11, h12, _, _, _⟩ := hm
  dsimp only at *
  obtain ⟨kp00, kp01, kp02, kp10, kp11, kp12, kp20, kp21, kp22⟩ := hp
  simp only [tmet, gr, Met.mk.injEq]
  refine ⟨?_, ?_, ?_, ?_, ?_, ?_⟩
  all_goals rw [ent (by omega) (by omega) (by omega) (by omega) (by omega) (by omega) (by omega) (by omega) (by omega) (by omega) (by omega) (by omega) (by omega) (by omega) (by omega)]
  all_goals grind
theorem Q_gr (m : Met) (P : Mt) (x y z : Int) : Qf (gr m P) x y z = Qf m (P.p00 * x + P.p01 * y + P.p02 * z) (P.p10 * x + P.p11 * y + P.p12 * z) (P.p20 * x + P.p21 * y + P.p22 * z) := by
  simp only [Qf, gr]; grind
theorem pg_x (P : Mt) (d x y z : Int) (hd : D9 P = d) (h2 : d * d = 1) : (P.p00 * (d * ((P.p11 * P.p22 - P.p12 * P.p21) * x + (P.p21 * P.p02 - P.p22 * P.p01) * y + (P.p01 * P.p12 - P.p02 * P.p11) * z)) + P.p01 * (d * ((P.p12 * P.p20 - P.p10 * P.p22) * x + (P.p22 * P.p00 - P.p20 * P.p02) * y + (P.p02 * P.p10 - P.p00 * P.p12) * z)) + P.p02 * (d * ((P.p10 * P.p21 - P.p11 * P.p20) * x + (P.p20 * P.p01 - P.p21 * P.p00) * y + (P.p00 * P.p11 - P.p01 * P.p10) * z))) = x := by
  have e : (P.p00 * (d * ((P.p11 * P.p22 - P.p12 * P.p21) * x + (P.p21 * P.p02 - P.p22 * P.p01) * y + (P.p01 * P.p12 - P.p02 * P.p11) * z)) + P.p01 * (d * ((P.p12 * P.p20 - P.p10 * P.p22) * x + (P.p22 * P.p00 - P.p20 * P.p02) * y + (P.p02 * P.p10 - P.p00 * P.p12) * z)) + P.p02 * (d * ((P.p10 * P.p21 - P.p11 * P.p20) * x + (P.p20 * P.p01 - P.p21 * P.p00) * y + (P.p00 * P.p11 - P.p01 * P.p10) * z))) = d * D9 P * x := by unfold D9; grind
  rw [e, hd, h2, Int.one_mul]
theorem gp_x (P : Mt) (d x y z : Int) (hd : D9 P = d) (h2 : d * d = 1) : (d * ((P.p11 * P.p22 - P.p12 * P.p21) * (P.p00 * x + P.p01 * y + P.p02 * z) + (P.p21 * P.p02 - P.p22 * P.p01) * (P.p10 * x + P.p11 * y + P.p12 * z) + (P.p01 * P.p12 - P.p02 * P.p11) * (P.p20 * x + P.p21 * y + P.p22 * z))) = x := by
  have e : (d * ((P.p11 * P.p22 - P.p12 * P.p21) * (P.p00 * x + P.p01 * y + P.p02 * z) + (P.p21 * P.p02 - P.p22 * P.p01) * (P.p10 * x + P.p11 * y + P.p12 * z) + (P.p01 * P.p12 - P.p02 * P.p11) * (P.p20 * x + P.p21 * y + P.p22 * z))) = d * D9 P * x := by unfold D9; grind
  rw [e, hd, h2, Int.one_mul]
theorem pg_y (P : Mt) (d x y z : Int) (hd : D9 P = d) (h2 : d * d = 1) : (P.p10 * (d * ((P.p11 * P.p22 - P.p12 * P.p21) * x + (P.p21 * P.p02 - P.p22 * P.p01) * y + (P.p01 * P.p12 - P.p02 * P.p11) * z)) + P.p11 * (d * ((P.p12 * P.p20 - P.p10 * P.p22) * x + (P.p22 * P.p00 - P.p20 * P.p02) * y + (P.p02 * P.p10 - P.p00 * P.p12) * z)) + P.p12 * (d * ((P.p10 * P.p21 - P.p11 * P.p20) * x + (P.p20 * P.p01 - P.p21 * P.p00) * y + (P.p00 * P.p11 - P.p01 * P.p10) * z))) = y := by
  have e : (P.p10 * (d * ((P.p11 * P.p22 - P.p12 * P.p21) * x + (P.p21 * P.p02 - P.p22 * P.p01) * y + (P.p01 * P.p12 - P.p02 * P.p11) * z)) + P.p11 * (d * ((P.p12 * P.p20 - P.p10 * P.p22) * x + (P.p22 * P.p00 - P.p20 * P.p02) * y + (P.p02 * P.p10 - P.p00 * P.p12) * z)) + P.p12 * (d * ((P.p10 * P.p21 - P.p11 * P.p20) * x + (P.p20 * P.p01 - P.p21 * P.p00) * y + (P.p00 * P.p11 - P.p01 * P.p10) * z))) = d * D9 P * y := by unfold D9; grind
  rw [e, hd, h2, Int.one_mul]
theorem gp_y (P : Mt) (d x y z : Int) (hd : D9 P = d) (h2 : d * d = 1) : (d * ((P.p12 * P.p20 - P.p10 * P.p22) * (P.p00 * x + P.p01 * y + P.p02 * z) + (P.p22 * P.p00 - P.p20 * P.p02) * (P.p10 * x + P.p11 * y + P.p12 * z) + (P.p02 * P.p10 - P.p00 * P.p12) * (P.p20 * x + P.p21 * y + P.p22 * z))) = y := by
  have e : (d * ((P.p12 * P.p20 - P.p10 * P.p22) * (P.p00 * x + P.p01 * y + P.p02 * z) + (P.p22 * P.p00 - P.p20 * P.p02) * (P.p10 * x + P.p11 * y + P.p12 * z) + (P.p02 * P.p10 - P.p00 * P.p12) * (P.p20 * x + P.p21 * y + P.p22 * z))) = d * D9 P * y := by unfold D9; grind
  rw [e, hd, h2, Int.one_mul]
theorem pg_z (P : Mt) (d x y z : Int) (hd : D9 P = d) (h2 : d * d = 1) : (P.p20 * (d * ((P.p11 * P.p22 - P.p12 * P.p21) * x + (P.p21 * P.p02 - P.p22 * P.p01) * y + (P.p01 * P.p12 - P.p02 * P.p11) * z)) + P.p21 * (d * ((P.p12 * P.p20 - P.p10 * P.p22) * x + (P.p22 * P.p00 - P.p20 * P.p02) * y + (P.p02 * P.p10 - P.p00 * P.p12) * z)) + P.p22 * (d * ((P.p10 * P.p21 - P.p11 * P.p20) * x + (P.p20 * P.p01 - P.p21 * P.p00) * y + (P.p00 * P.p11 - P.p01 * P.p10) * z))) = z := by
  have e : (P.p20 * (d * ((P.p11 * P.p22 - P.p12 * P.p21) * x + (P.p21 * P.p02 - P.p22 * P.p01) * y + (P.p01 * P.p12 - P.p02 * P.p11) * z)) + P.p21 * (d * ((P.p12 * P.p20 - P.p10 * P.p22) * x + (P.p22 * P.p00 - P.p20 * P.p02) * y + (P.p02 * P.p10 - P.p00 * P.p12) * z)) + P.p22 * (d * ((P.p10 * P.p21 - P.p11 * P.p20) * x + (P.p20 * P.p01 - P.p21 * P.p00) * y + (P.p00 * P.p11 - P.p01 * P.p10) * z))) = d * D9 P * z := by unfold D9; grind
  rw [e, hd, h2, Int.one_mul]
theorem gp_z (P : Mt) (d x y z : Int) (hd : D9 P = d) (h2 : d * d = 1) : (d * ((P.p10 * P.p21 - P.p11 * P.p20) * (P.p00 * x + P.p01 * y + P.p02 * z) + (P.p20 * P.p01 - P.p21 * P.p00) * (P.p10 * x + P.p11 * y + P.p12 * z) + (P.p00 * P.p11 - P.p01 * P.p10) * (P.p20 * x + P.p21 * y + P.p22 * z))) = z := by
  have e : (d * ((P.p10 * P.p21 - P.p11 * P.p20) * (P.p00 * x + P.p01 * y + P.p02 * z) + (P.p20 * P.p01 - P.p21 * P.p00) * (P.p10 * x + P.p11 * y + P.p12 * z) + (P.p00 * P.p11 - P.p01 * P.p10) * (P.p20 * x + P.p21 * y + P.p22 * z))) = d * D9 P * z := by unfold D9; grind
  rw [e, hd, h2, Int.one_mul]
theorem min_gr {m : Met} {P : Mt} {n d : Int} (hd : D9 P = d) (h2 : d * d = 1) (h : IsMin (gr m P) n) : IsMin m n := by
  refine h.turn (fun x y z => ((P.p00 * x + P.p01 * y + P.p02 * z), (P.p10 * x + P.p11 * y + P.p12 * z), (P.p20 * x + P.p21 * y + P.p22 * z))) (fun x y z => ((d * ((P.p11 * P.p22 - P.p12 * P.p21) * x + (P.p21 * P.p02 - P.p22 * P.p01) * y + (P.p01 * P.p12 - P.p02 * P.p11) * z)), (d * ((P.p12 * P.p20 - P.p10 * P.p22) * x + (P.p22 * P.p00 - P.p20 * P.p02) * y + (P.p02 * P.p10 - P.p00 * P.p12) * z)), (d * ((P.p10 * P.p21 - P.p11 * P.p20) * x + (P.p20 * P.p01 - P.p21 * P.p00) * y + (P.p00 * P.p11 - P.p01 * P.p10) * z)))) (fun x y z => Q_gr m P x y z) (fun x y z => ?_) (fun x y z hz => ?_) (fun x y z hz => ?_)
  · dsimp only
    rw [Q_gr, pg_x P d x y z hd h2, pg_y P d x y z hd h2, pg_z P d x y z hd h2]
  · intro hq
    obtain ⟨q1, q2, q3⟩ := hq
    dsimp only at q1 q2 q3
    have e1 := gp_x P d x y z hd h2; have e2 := gp_y P d x y z hd h2; have e3 := gp_z P d x y z hd h2
    rw [q1, q2, q3] at e1 e2 e3
    simp at e1 e2 e3
    exact hz ⟨e1.symm, e2.symm, e3.symm⟩
  · intro hq
    obtain ⟨q1, q2, q3⟩ := hq
    dsimp only at q1 q2 q3
    have e1 := pg_x P d x y z hd h2; have e2 := pg_y P d x y z hd h2; have e3 := pg_z P d x y z hd h2
    rw [q1, q2, q3] at e1 e2 e3
    simp at e1 e2 e3
    exact hz ⟨e1.symm, e2.symm, e3.symm⟩
theorem form_ok {p00 p01 p02 p10 p11 p12 p20 p21 p22 : Int} (h : formC p00 p01 p02 p10 p11 p12 p20 p21 p22 = 0) : ((-1000 ≤ p00 ∧ p00 ≤ 1000) ∧ (-1000 ≤ p01 ∧ p01 ≤ 1000) ∧ (-1000 ≤ p02 ∧ p02 ≤ 1000) ∧ (-1000 ≤ p10 ∧ p10 ≤ 1000) ∧ (-1000 ≤ p11 ∧ p11 ≤ 1000) ∧ (-1000 ≤ p12 ∧ p12 ≤ 1000) ∧ (-1000 ≤ p20 ∧ p20 ≤ 1000) ∧ (-1000 ≤ p21 ∧ p21 ≤ 1000) ∧ (-1000 ≤ p22 ∧ p22 ≤ 1000)) ∧ ∃ d, D9 (⟨p00, p01, p02, p10, p11, p12, p20, p21, p22⟩ : Mt) = d ∧ d * d = 1 := by
  unfold formC at h
  split at h
  · rename_i hp
    refine ⟨hp, ?_⟩
    split at h
    · rename_i hd
      obtain ⟨kp00, kp01, kp02, kp10, kp11, kp12, kp20, kp21, kp22⟩ := hp
      have z0 := mul3_b p00 p11 p22 (by omega) (by omega) (by omega) (by omega) (by omega) (by omega)
      have z1 := mul3_b p00 p12 p21 (by omega) (by omega) (by omega) (by omega) (by omega) (by omega)
      have z2 := mul3_b p01 p12 p20 (by omega) (by omega) (by omega) (by omega) (by omega) (by omega)
      have z3 := mul3_b p01 p10 p22 (by omega) (by omega) (by omega) (by omega) (by omega) (by omega)
      have z4 := mul3_b p02 p10 p21 (by omega) (by omega) (by omega) (by omega) (by omega) (by omega)
      have z5 := mul3_b p02 p11 p20 (by omega) (by omega) (by omega) (by omega) (by omega) (by omega)
      have hw : wrap64 (d9 p00 p01 p02 p10 p11 p12 p20 p21 p22) = d9 p00 p01 p02 p10 p11 p12 p20 p21 p22 := by unfold d9; exact wrapE (by omega) (by omega)
      rw [hw] at hd
      refine ⟨d9 p00 p01 p02 p10 p11 p12 p20 p21 p22, rfl, ?_⟩
      rcases hd with hd | hd <;> rw [hd] <;> rfl
    · omega
  · omega
theorem same_least {m : Met} {p00 p01 p02 p10 p11 p12 p20 p21 p22 : Int} (hC : chk m = 0) (hF : formC p00 p01 p02 p10 p11 p12 p20 p21 p22 = 0) (hb : chk (tmet m p00 p01 p02 p10 p11 p12 p20 p21 p22) = 0) {N N' : Nat} (h1 : pick (it m N) = 6) (h2 : ∀ k, k < N → pick (it m k) < 6) (h3 : pick (it (tmet m p00 p01 p02 p10 p11 p12 p20 p21 p22) N') = 6) (h4 : ∀ k, k < N' → pick (it (tmet m p00 p01 p02 p10 p11 p12 p20 p21 p22) k) < 6) :
    lst (it (tmet m p00 p01 p02 p10 p11 p12 p20 p21 p22) N') 6 = lst (it m N) 6 := by
  obtain ⟨hp, d, hd, hdd⟩ := form_ok hF
  have a := (chk_min hC h1 h2).1
  have b := (chk_min hb h3 h4).1
  have e := tmet_gr (chk_ok hC) hp
  have g := min_gr hd hdd (e ▸ b : IsMin (gr m ⟨p00, p01, p02, p10, p11, p12, p20, p21, p22⟩) (lst (it (tmet m p00 p01 p02 p10 p11 p12 p20 p21 p22) N') 6))
  exact g.uniq a
end Go.Proofs.Ytdhlkhockpblhaa
