/-
  Plain law: products, determinants, adjugates of matrices of small entries.
-/
import Derived.Test.YtjghhgapacnpeaaMatP
namespace Go.Proofs.Ytjghhgapacnpeaa
open Go.RowKit
attribute [local irreducible] World.setCell

set_option linter.unusedSimpArgs false
set_option linter.unusedVariables false

theorem wrap3r (x y z a b c : Int) : wrap64 (a * wrap64 x + b * wrap64 y + c * wrap64 z) = wrap64 (a * x + b * y + c * z) := by
  rw [Int.mul_comm a, Int.mul_comm b, Int.mul_comm c, wrap3]; congr 1; grind
theorem app_app (x y : Mt) (u : V3) : appM x (appM y u) = appM (mulW x y) u := by
  simp only [appM, mulW, V3.mk.injEq, wrap3, wrap3r]
  refine ⟨?_, ?_, ?_⟩
  all_goals (congr 1; grind)
theorem app_tr (x y : Mt) (u : V3) : appM (trM y) (appM (trM x) u) = appM (trM (mulW x y)) u := by
  simp only [appM, mulW, trM, V3.mk.injEq, wrap3, wrap3r]
  refine ⟨?_, ?_, ?_⟩
  all_goals (congr 1; grind)
theorem wrap_cong {x y : Int} (h : ∃ k : Int, x = y + 18446744073709551616 * k) : wrap64 x = wrap64 y := by
  obtain ⟨k, rfl⟩ := h; exact wrap_shift y k
def scal (d : Int) : Mt := ⟨d, 0, 0, 0, d, 0, 0, 0, d⟩
theorem mul_adj (x : Mt) : mulW x (adjW x) = scal (dM x) := by
  simp only [mulW, adjW, scal, dM, Mt.mk.injEq, wrap3r, d9]
  refine ⟨?_, ?_, ?_, ?_, ?_, ?_, ?_, ?_, ?_⟩
  all_goals first | (congr 1; grind) | ((refine Eq.trans (congrArg wrap64 (a₂ := 0) ?_) (wrap_id 0 (by omega) (by omega))); grind)
theorem in_bd {m : Mt} (h : In11 m) : ∀ a b : Int, True := fun _ _ => trivial
theorem chk_of {m : Mt} (h : (-1000 ≤ m.p00 ∧ m.p00 ≤ 1000) ∧ (-1000 ≤ m.p01 ∧ m.p01 ≤ 1000) ∧ (-1000 ≤ m.p02 ∧ m.p02 ≤ 1000) ∧ (-1000 ≤ m.p10 ∧ m.p10 ≤ 1000) ∧ (-1000 ≤ m.p11 ∧ m.p11 ≤ 1000) ∧ (-1000 ≤ m.p12 ∧ m.p12 ≤ 1000) ∧ (-1000 ≤ m.p20 ∧ m.p20 ≤ 1000) ∧ (-1000 ≤ m.p21 ∧ m.p21 ≤ 1000) ∧ (-1000 ≤ m.p22 ∧ m.p22 ≤ 1000)) : chkM m = 0 := by
  unfold chkM; exact (matC_0 h).symm
theorem chk11 {m : Mt} (h : In11 m) : chkM m = 0 := by
  obtain ⟨a0, a1, a2, a3, a4, a5, a6, a7, a8⟩ := h
  exact chk_of (by omega)
theorem p11 {a b : Int} (ha : -11 ≤ a ∧ a ≤ 11) (hb : -11 ≤ b ∧ b ≤ 11) : -121 ≤ a * b ∧ a * b ≤ 121 := mulb 11 11 ha hb
theorem chk_mul {x y : Mt} (hx : In11 x) (hy : In11 y) : chkM (mulW x y) = 0 := by
  obtain ⟨a0, a1, a2, a3, a4, a5, a6, a7, a8⟩ := hx
  obtain ⟨b0, b1, b2, b3, b4, b5, b6, b7, b8⟩ := hy
  refine chk_of ?_
  simp only [mulW]
  refine ⟨?_, ?_, ?_, ?_, ?_, ?_, ?_, ?_, ?_⟩
  · have q0 := p11 a0 b0; have q1 := p11 a1 b3; have q2 := p11 a2 b6; rw [wrap_id _ (by omega) (by omega)]; omega
  · have q0 := p11 a0 b1; have q1 := p11 a1 b4; have q2 := p11 a2 b7; rw [wrap_id _ (by omega) (by omega)]; omega
  · have q0 := p11 a0 b2; have q1 := p11 a1 b5; have q2 := p11 a2 b8; rw [wrap_id _ (by omega) (by omega)]; omega
  · have q0 := p11 a3 b0; have q1 := p11 a4 b3; have q2 := p11 a5 b6; rw [wrap_id _ (by omega) (by omega)]; omega
  · have q0 := p11 a3 b1; have q1 := p11 a4 b4; have q2 := p11 a5 b7; rw [wrap_id _ (by omega) (by omega)]; omega
  · have q0 := p11 a3 b2; have q1 := p11 a4 b5; have q2 := p11 a5 b8; rw [wrap_id _ (by omega) (by omega)]; omega
  · have q0 := p11 a6 b0; have q1 := p11 a7 b3; have q2 := p11 a8 b6; rw [wrap_id _ (by omega) (by omega)]; omega
  · have q0 := p11 a6 b1; have q1 := p11 a7 b4; have q2 := p11 a8 b7; rw [wrap_id _ (by omega) (by omega)]; omega
  · have q0 := p11 a6 b2; have q1 := p11 a7 b5; have q2 := p11 a8 b8; rw [wrap_id _ (by omega) (by omega)]; omega
theorem chk_adj {x : Mt} (hx : In11 x) : chkM (adjW x) = 0 := by
  obtain ⟨a0, a1, a2, a3, a4, a5, a6, a7, a8⟩ := hx
  refine chk_of ?_
  simp only [adjW]
  refine ⟨?_, ?_, ?_, ?_, ?_, ?_, ?_, ?_, ?_⟩
  · have q0 := p11 a4 a8; have q1 := p11 a5 a7; rw [wrap_id _ (by omega) (by omega)]; omega
  · have q0 := p11 a7 a2; have q1 := p11 a8 a1; rw [wrap_id _ (by omega) (by omega)]; omega
  · have q0 := p11 a1 a5; have q1 := p11 a2 a4; rw [wrap_id _ (by omega) (by omega)]; omega
  · have q0 := p11 a5 a6; have q1 := p11 a3 a8; rw [wrap_id _ (by omega) (by omega)]; omega
  · have q0 := p11 a8 a0; have q1 := p11 a6 a2; rw [wrap_id _ (by omega) (by omega)]; omega
  · have q0 := p11 a2 a3; have q1 := p11 a0 a5; rw [wrap_id _ (by omega) (by omega)]; omega
  · have q0 := p11 a3 a7; have q1 := p11 a4 a6; rw [wrap_id _ (by omega) (by omega)]; omega
  · have q0 := p11 a6 a1; have q1 := p11 a7 a0; rw [wrap_id _ (by omega) (by omega)]; omega
  · have q0 := p11 a0 a4; have q1 := p11 a1 a3; rw [wrap_id _ (by omega) (by omega)]; omega
theorem app_bd {m : Mt} {v : V3} (hm : In11 m) (hv : InV 32768 v) : InV 2147483648 (appM m v) := by
  obtain ⟨a0, a1, a2, a3, a4, a5, a6, a7, a8⟩ := hm
  obtain ⟨w0, w1, w2⟩ := hv
  refine ⟨?_, ?_, ?_⟩
  all_goals simp only [appM]
  · have q0 := mulb 11 32768 a0 w0; have q1 := mulb 11 32768 a1 w1; have q2 := mulb 11 32768 a2 w2; rw [wrap_id _ (by omega) (by omega)]; omega
  · have q0 := mulb 11 32768 a3 w0; have q1 := mulb 11 32768 a4 w1; have q2 := mulb 11 32768 a5 w2; rw [wrap_id _ (by omega) (by omega)]; omega
  · have q0 := mulb 11 32768 a6 w0; have q1 := mulb 11 32768 a7 w1; have q2 := mulb 11 32768 a8 w2; rw [wrap_id _ (by omega) (by omega)]; omega
theorem tr_11 {m : Mt} (h : In11 m) : In11 (trM m) := by
  obtain ⟨a0, a1, a2, a3, a4, a5, a6, a7, a8⟩ := h
  exact ⟨a0, a3, a6, a1, a4, a7, a2, a5, a8⟩

theorem wrap_mul2 (x y : Int) : wrap64 (wrap64 x * wrap64 y) = wrap64 (x * y) := by rw [wrap_mul_l, wrap_mul_r]
theorem wrap_ex (x : Int) : ∃ k : Int, wrap64 x = x + 18446744073709551616 * k := wrap_mod x
theorem det_mul {x y : Mt} (hx : In11 x) (hy : In11 y) : dM (mulW x y) = wrap64 (dM x * dM y) := by
  obtain ⟨a0, a1, a2, a3, a4, a5, a6, a7, a8⟩ := hx
  obtain ⟨b0, b1, b2, b3, b4, b5, b6, b7, b8⟩ := hy
  simp only [dM, mulW, wrap_mul2]
  rw [show wrap64 (x.p00 * y.p00 + x.p01 * y.p10 + x.p02 * y.p20) = x.p00 * y.p00 + x.p01 * y.p10 + x.p02 * y.p20 from by have q0 := p11 a0 b0; have q1 := p11 a1 b3; have q2 := p11 a2 b6; exact wrap_id _ (by omega) (by omega)]
  rw [show wrap64 (x.p00 * y.p01 + x.p01 * y.p11 + x.p02 * y.p21) = x.p00 * y.p01 + x.p01 * y.p11 + x.p02 * y.p21 from by have q0 := p11 a0 b1; have q1 := p11 a1 b4; have q2 := p11 a2 b7; exact wrap_id _ (by omega) (by omega)]
  rw [show wrap64 (x.p00 * y.p02 + x.p01 * y.p12 + x.p02 * y.p22) = x.p00 * y.p02 + x.p01 * y.p12 + x.p02 * y.p22 from by have q0 := p11 a0 b2; have q1 := p11 a1 b5; have q2 := p11 a2 b8; exact wrap_id _ (by omega) (by omega)]
  rw [show wrap64 (x.p10 * y.p00 + x.p11 * y.p10 + x.p12 * y.p20) = x.p10 * y.p00 + x.p11 * y.p10 + x.p12 * y.p20 from by have q0 := p11 a3 b0; have q1 := p11 a4 b3; have q2 := p11 a5 b6; exact wrap_id _ (by omega) (by omega)]
  rw [show wrap64 (x.p10 * y.p01 + x.p11 * y.p11 + x.p12 * y.p21) = x.p10 * y.p01 + x.p11 * y.p11 + x.p12 * y.p21 from by have q0 := p11 a3 b1; have q1 := p11 a4 b4; have q2 := p11 a5 b7; exact wrap_id _ (by omega) (by omega)]
  rw [show wrap64 (x.p10 * y.p02 + x.p11 * y.p12 + x.p12 * y.p22) = x.p10 * y.p02 + x.p11 * y.p12 + x.p12 * y.p22 from by have q0 := p11 a3 b2; have q1 := p11 a4 b5; have q2 := p11 a5 b8; exact wrap_id _ (by omega) (by omega)]
  rw [show wrap64 (x.p20 * y.p00 + x.p21 * y.p10 + x.p22 * y.p20) = x.p20 * y.p00 + x.p21 * y.p10 + x.p22 * y.p20 from by have q0 := p11 a6 b0; have q1 := p11 a7 b3; have q2 := p11 a8 b6; exact wrap_id _ (by omega) (by omega)]
  rw [show wrap64 (x.p20 * y.p01 + x.p21 * y.p11 + x.p22 * y.p21) = x.p20 * y.p01 + x.p21 * y.p11 + x.p22 * y.p21 from by have q0 := p11 a6 b1; have q1 := p11 a7 b4; have q2 := p11 a8 b7; exact wrap_id _ (by omega) (by omega)]
  rw [show wrap64 (x.p20 * y.p02 + x.p21 * y.p12 + x.p22 * y.p22) = x.p20 * y.p02 + x.p21 * y.p12 + x.p22 * y.p22 from by have q0 := p11 a6 b2; have q1 := p11 a7 b5; have q2 := p11 a8 b8; exact wrap_id _ (by omega) (by omega)]
  congr 1
  unfold d9
  grind
end Go.Proofs.Ytjghhgapacnpeaa
