/-
  Plain law: nothing wraps; what a shortening keeps.
-/
import Derived.Test.YtdhlkhockpblhaaRedK1
import Derived.Test.YtdhlkhockpblhaaRedU
namespace Go.Proofs.Ytdhlkhockpblhaa
open Go.RowKit
attribute [local irreducible] World.setCell

set_option linter.unusedSimpArgs false
set_option linter.unusedVariables false

theorem mulk {x y : Int} (a b : Nat) (hx : -(a : Int) ≤ x ∧ x ≤ a) (hy : -(b : Int) ≤ y ∧ y ≤ b) : -((a * b : Nat) : Int) ≤ x * y ∧ x * y ≤ ((a * b : Nat) : Int) := by
  have h : (x * y).natAbs ≤ a * b := by rw [Int.natAbs_mul]; exact Nat.mul_le_mul (by omega) (by omega)
  omega
theorem St.bd {m0 m : Met} (h : St m0 m) : (1 ≤ m.aa ∧ m.aa ≤ 300000) ∧ (1 ≤ m.bb ∧ m.bb ≤ 300000) ∧ (1 ≤ m.cc ∧ m.cc ≤ 300000) ∧ (-300000 ≤ m.ab ∧ m.ab ≤ 300000) ∧ (-300000 ≤ m.ac ∧ m.ac ≤ 300000) ∧ (-300000 ≤ m.bc ∧ m.bc ≤ 300000) := by
  have b := h.pd.bd
  have t := h.tr
  unfold tr3 at t
  omega
theorem near_bd {a b : Int} (h1 : 1 ≤ b) (h2 : b ≤ 300000) (h3 : -300000 ≤ a) (h4 : a ≤ 300000) : -400000 ≤ (2 * a + b) / (2 * b) ∧ (2 * a + b) / (2 * b) ≤ 400000 := by
  have hd := Int.mul_ediv_add_emod (2 * a + b) (2 * b)
  have h0 := Int.emod_nonneg (2 * a + b) (show 2 * b ≠ 0 by omega)
  have hl := Int.emod_lt_of_pos (2 * a + b) (show 0 < 2 * b by omega)
  generalize (2 * a + b) / (2 * b) = q at *
  generalize (2 * a + b) % (2 * b) = r at *
  constructor
  · rcases Int.lt_or_le q (-400000) with hn | hn
    · exfalso
      have := Int.mul_le_mul_of_nonneg_left (show q ≤ -400001 by omega) (show (0:Int) ≤ 2 * b by omega)
      omega
    · omega
  · rcases Int.lt_or_le 400000 q with hn | hn
    · exfalso
      have := Int.mul_le_mul_of_nonneg_left (show (400001:Int) ≤ q by omega) (show (0:Int) ≤ 2 * b by omega)
      omega
    · omega
theorem aw_eq01 {m : Met} {n : Int} (K L : Nat) (hn : -(L : Int) ≤ n ∧ n ≤ L) (haa : -(K : Int) ≤ m.aa ∧ m.aa ≤ K) (hbb : -(K : Int) ≤ m.bb ∧ m.bb ≤ K) (hcc : -(K : Int) ≤ m.cc ∧ m.cc ≤ K) (hbc : -(K : Int) ≤ m.bc ∧ m.bc ≤ K) (hac : -(K : Int) ≤ m.ac ∧ m.ac ≤ K) (hab : -(K : Int) ≤ m.ab ∧ m.ab ≤ K) (hKL : (K : Int) + L * K + L * (K + L * K) < 9223372036854775807) : aw01 n m = ad01 n m ∧ (-((K : Int) + L * K + L * (K + L * K)) ≤ (ad01 n m).aa ∧ (ad01 n m).aa ≤ (K : Int) + L * K + L * (K + L * K)) ∧ (-((K : Int) + L * K + L * (K + L * K)) ≤ (ad01 n m).bb ∧ (ad01 n m).bb ≤ (K : Int) + L * K + L * (K + L * K)) ∧ (-((K : Int) + L * K + L * (K + L * K)) ≤ (ad01 n m).cc ∧ (ad01 n m).cc ≤ (K : Int) + L * K + L * (K + L * K)) ∧ (-((K : Int) + L * K + L * (K + L * K)) ≤ (ad01 n m).bc ∧ (ad01 n m).bc ≤ (K : Int) + L * K + L * (K + L * K)) ∧ (-((K : Int) + L * K + L * (K + L * K)) ≤ (ad01 n m).ac ∧ (ad01 n m).ac ≤ (K : Int) + L * K + L * (K + L * K)) ∧ (-((K : Int) + L * K + L * (K + L * K)) ≤ (ad01 n m).ab ∧ (ad01 n m).ab ≤ (K : Int) + L * K + L * (K + L * K)) := by
  have m0 := mulk (x := n) (y := m.ab) L K hn hab
  have m1 := mulk (x := n) (y := m.bb) L K hn hbb
  have m2 := mulk (x := n) (y := m.bc) L K hn hbc
  have mm := mulk (x := n) (y := m.ab + n * m.bb) L (K + L * K) hn (by have := m1; simp only [Int.natCast_mul, Int.natCast_add] at *; omega)
  simp only [Int.natCast_mul, Int.natCast_add] at *
  have p0 : (0 : Int) ≤ (L : Int) * K := Int.mul_nonneg (by omega) (by omega)
  have p1 : (0 : Int) ≤ (L : Int) * (K + L * K) := Int.mul_nonneg (by omega) (by omega)
  refine ⟨?_, ?_⟩
  · simp only [aw01, ad01, Met.mk.injEq]
    refine ⟨?_, ?_, ?_, ?_, ?_, ?_⟩ <;> first | exact True.intro | rfl | (refine wrapE ?_ ?_ <;> omega)
  · simp only [ad01]
    refine ⟨?_, ?_, ?_, ?_, ?_, ?_⟩ <;> omega
theorem aw_eq02 {m : Met} {n : Int} (K L : Nat) (hn : -(L : Int) ≤ n ∧ n ≤ L) (haa : -(K : Int) ≤ m.aa ∧ m.aa ≤ K) (hbb : -(K : Int) ≤ m.bb ∧ m.bb ≤ K) (hcc : -(K : Int) ≤ m.cc ∧ m.cc ≤ K) (hbc : -(K : Int) ≤ m.bc ∧ m.bc ≤ K) (hac : -(K : Int) ≤ m.ac ∧ m.ac ≤ K) (hab : -(K : Int) ≤ m.ab ∧ m.ab ≤ K) (hKL : (K : Int) + L * K + L * (K + L * K) < 9223372036854775807) : aw02 n m = ad02 n m ∧ (-((K : Int) + L * K + L * (K + L * K)) ≤ (ad02 n m).aa ∧ (ad02 n m).aa ≤ (K : Int) + L * K + L * (K + L * K)) ∧ (-((K : Int) + L * K + L * (K + L * K)) ≤ (ad02 n m).bb ∧ (ad02 n m).bb ≤ (K : Int) + L * K + L * (K + L * K)) ∧ (-((K : Int) + L * K + L * (K + L * K)) ≤ (ad02 n m).cc ∧ (ad02 n m).cc ≤ (K : Int) + L * K + L * (K + L * K)) ∧ (-((K : Int) + L * K + L * (K + L * K)) ≤ (ad02 n m).bc ∧ (ad02 n m).bc ≤ (K : Int) + L * K + L * (K + L * K)) ∧ (-((K : Int) + L * K + L * (K + L * K)) ≤ (ad02 n m).ac ∧ (ad02 n m).ac ≤ (K : Int) + L * K + L * (K + L * K)) ∧ (-((K : Int) + L * K + L * (K + L * K)) ≤ (ad02 n m).ab ∧ (ad02 n m).ab ≤ (K : Int) + L * K + L * (K + L * K)) := by
  have m0 := mulk (x := n) (y := m.ac) L K hn hac
  have m1 := mulk (x := n) (y := m.bc) L K hn hbc
  have m2 := mulk (x := n) (y := m.cc) L K hn hcc
  have mm := mulk (x := n) (y := m.ac + n * m.cc) L (K + L * K) hn (by have := m2; simp only [Int.natCast_mul, Int.natCast_add] at *; omega)
  simp only [Int.natCast_mul, Int.natCast_add] at *
  have p0 : (0 : Int) ≤ (L : Int) * K := Int.mul_nonneg (by omega) (by omega)
  have p1 : (0 : Int) ≤ (L : Int) * (K + L * K) := Int.mul_nonneg (by omega) (by omega)
  refine ⟨?_, ?_⟩
  · simp only [aw02, ad02, Met.mk.injEq]
    refine ⟨?_, ?_, ?_, ?_, ?_, ?_⟩ <;> first | exact True.intro | rfl | (refine wrapE ?_ ?_ <;> omega)
  · simp only [ad02]
    refine ⟨?_, ?_, ?_, ?_, ?_, ?_⟩ <;> omega
theorem aw_eq10 {m : Met} {n : Int} (K L : Nat) (hn : -(L : Int) ≤ n ∧ n ≤ L) (haa : -(K : Int) ≤ m.aa ∧ m.aa ≤ K) (hbb : -(K : Int) ≤ m.bb ∧ m.bb ≤ K) (hcc : -(K : Int) ≤ m.cc ∧ m.cc ≤ K) (hbc : -(K : Int) ≤ m.bc ∧ m.bc ≤ K) (hac : -(K : Int) ≤ m.ac ∧ m.ac ≤ K) (hab : -(K : Int) ≤ m.ab ∧ m.ab ≤ K) (hKL : (K : Int) + L * K + L * (K + L * K) < 9223372036854775807) : aw10 n m = ad10 n m ∧ (-((K : Int) + L * K + L * (K + L * K)) ≤ (ad10 n m).aa ∧ (ad10 n m).aa ≤ (K : Int) + L * K + L * (K + L * K)) ∧ (-((K : Int) + L * K + L * (K + L * K)) ≤ (ad10 n m).bb ∧ (ad10 n m).bb ≤ (K : Int) + L * K + L * (K + L * K)) ∧ (-((K : Int) + L * K + L * (K + L * K)) ≤ (ad10 n m).cc ∧ (ad10 n m).cc ≤ (K : Int) + L * K + L * (K + L * K)) ∧ (-((K : Int) + L * K + L * (K + L * K)) ≤ (ad10 n m).bc ∧ (ad10 n m).bc ≤ (K : Int) + L * K + L * (K + L * K)) ∧ (-((K : Int) + L * K + L * (K + L * K)) ≤ (ad10 n m).ac ∧ (ad10 n m).ac ≤ (K : Int) + L * K + L * (K + L * K)) ∧ (-((K : Int) + L * K + L * (K + L * K)) ≤ (ad10 n m).ab ∧ (ad10 n m).ab ≤ (K : Int) + L * K + L * (K + L * K)) := by
  have m0 := mulk (x := n) (y := m.aa) L K hn haa
  have m1 := mulk (x := n) (y := m.ab) L K hn hab
  have m2 := mulk (x := n) (y := m.ac) L K hn hac
  have mm := mulk (x := n) (y := m.ab + n * m.aa) L (K + L * K) hn (by have := m0; simp only [Int.natCast_mul, Int.natCast_add] at *; omega)
  simp only [Int.natCast_mul, Int.natCast_add] at *
  have p0 : (0 : Int) ≤ (L : Int) * K := Int.mul_nonneg (by omega) (by omega)
  have p1 : (0 : Int) ≤ (L : Int) * (K + L * K) := Int.mul_nonneg (by omega) (by omega)
  refine ⟨?_, ?_⟩
  · simp only [aw10, ad10, Met.mk.injEq]
    refine ⟨?_, ?_, ?_, ?_, ?_, ?_⟩ <;> first | exact True.intro | rfl | (refine wrapE ?_ ?_ <;> omega)
  · simp only [ad10]
    refine ⟨?_, ?_, ?_, ?_, ?_, ?_⟩ <;> omega
theorem aw_eq12 {m : Met} {n : Int} (K L : Nat) (hn : -(L : Int) ≤ n ∧ n ≤ L) (haa : -(K : Int) ≤ m.aa ∧ m.aa ≤ K) (hbb : -(K : Int) ≤ m.bb ∧ m.bb ≤ K) (hcc : -(K : Int) ≤ m.cc ∧ m.cc ≤ K) (hbc : -(K : Int) ≤ m.bc ∧ m.bc ≤ K) (hac : -(K : Int) ≤ m.ac ∧ m.ac ≤ K) (hab : -(K : Int) ≤ m.ab ∧ m.ab ≤ K) (hKL : (K : Int) + L * K + L * (K + L * K) < 9223372036854775807) : aw12 n m = ad12 n m ∧ (-((K : Int) + L * K + L * (K + L * K)) ≤ (ad12 n m).aa ∧ (ad12 n m).aa ≤ (K : Int) + L * K + L * (K + L * K)) ∧ (-((K : Int) + L * K + L * (K + L * K)) ≤ (ad12 n m).bb ∧ (ad12 n m).bb ≤ (K : Int) + L * K + L * (K + L * K)) ∧ (-((K : Int) + L * K + L * (K + L * K)) ≤ (ad12 n m).cc ∧ (ad12 n m).cc ≤ (K : Int) + L * K + L * (K + L * K)) ∧ (-((K : Int) + L * K + L * (K + L * K)) ≤ (ad12 n m).bc ∧ (ad12 n m).bc ≤ (K : Int) + L * K + L * (K + L * K)) ∧ (-((K : Int) + L * K + L * (K + L * K)) ≤ (ad12 n m).ac ∧ (ad12 n m).ac ≤ (K : Int) + L * K + L * (K + L * K)) ∧ (-((K : Int) + L * K + L * (K + L * K)) ≤ (ad12 n m).ab ∧ (ad12 n m).ab ≤ (K : Int) + L * K + L * (K + L * K)) := by
  have m0 := mulk (x := n) (y := m.ac) L K hn hac
  have m1 := mulk (x := n) (y := m.bc) L K hn hbc
  have m2 := mulk (x := n) (y := m.cc) L K hn hcc
  have mm := mulk (x := n) (y := m.bc + n * m.cc) L (K + L * K) hn (by have := m2; simp only [Int.natCast_mul, Int.natCast_add] at *; omega)
  simp only [Int.natCast_mul, Int.natCast_add] at *
  have p0 : (0 : Int) ≤ (L : Int) * K := Int.mul_nonneg (by omega) (by omega)
  have p1 : (0 : Int) ≤ (L : Int) * (K + L * K) := Int.mul_nonneg (by omega) (by omega)
  refine ⟨?_, ?_⟩
  · simp only [aw12, ad12, Met.mk.injEq]
    refine ⟨?_, ?_, ?_, ?_, ?_, ?_⟩ <;> first | exact True.intro | rfl | (refine wrapE ?_ ?_ <;> omega)
  · simp only [ad12]
    refine ⟨?_, ?_, ?_, ?_, ?_, ?_⟩ <;> omega
theorem aw_eq20 {m : Met} {n : Int} (K L : Nat) (hn : -(L : Int) ≤ n ∧ n ≤ L) (haa : -(K : Int) ≤ m.aa ∧ m.aa ≤ K) (hbb : -(K : Int) ≤ m.bb ∧ m.bb ≤ K) (hcc : -(K : Int) ≤ m.cc ∧ m.cc ≤ K) (hbc : -(K : Int) ≤ m.bc ∧ m.bc ≤ K) (hac : -(K : Int) ≤ m.ac ∧ m.ac ≤ K) (hab : -(K : Int) ≤ m.ab ∧ m.ab ≤ K) (hKL : (K : Int) + L * K + L * (K + L * K) < 9223372036854775807) : aw20 n m = ad20 n m ∧ (-((K : Int) + L * K + L * (K + L * K)) ≤ (ad20 n m).aa ∧ (ad20 n m).aa ≤ (K : Int) + L * K + L * (K + L * K)) ∧ (-((K : Int) + L * K + L * (K + L * K)) ≤ (ad20 n m).bb ∧ (ad20 n m).bb ≤ (K : Int) + L * K + L * (K + L * K)) ∧ (-((K : Int) + L * K + L * (K + L * K)) ≤ (ad20 n m).cc ∧ (ad20 n m).cc ≤ (K : Int) + L * K + L * (K + L * K)) ∧ (-((K : Int) + L * K + L * (K + L * K)) ≤ (ad20 n m).bc ∧ (ad20 n m).bc ≤ (K : Int) + L * K + L * (K + L * K)) ∧ (-((K : Int) + L * K + L * (K + L * K)) ≤ (ad20 n m).ac ∧ (ad20 n m).ac ≤ (K : Int) + L * K + L * (K + L * K)) ∧ (-((K : Int) + L * K + L * (K + L * K)) ≤ (ad20 n m).ab ∧ (ad20 n m).ab ≤ (K : Int) + L * K + L * (K + L * K)) := by
  have m0 := mulk (x := n) (y := m.aa) L K hn haa
  have m1 := mulk (x := n) (y := m.ab) L K hn hab
  have m2 := mulk (x := n) (y := m.ac) L K hn hac
  have mm := mulk (x := n) (y := m.ac + n * m.aa) L (K + L * K) hn (by have := m0; simp only [Int.natCast_mul, Int.natCast_add] at *; omega)
  simp only [Int.natCast_mul, Int.natCast_add] at *
  have p0 : (0 : Int) ≤ (L : Int) * K := Int.mul_nonneg (by omega) (by omega)
  have p1 : (0 : Int) ≤ (L : Int) * (K + L * K) := Int.mul_nonneg (by omega) (by omega)
  refine ⟨?_, ?_⟩
  · simp only [aw20, ad20, Met.mk.injEq]
    refine ⟨?_, ?_, ?_, ?_, ?_, ?_⟩ <;> first | exact True.intro | rfl | (refine wrapE ?_ ?_ <;> omega)
  · simp only [ad20]
    refine ⟨?_, ?_, ?_, ?_, ?_, ?_⟩ <;> omega
theorem aw_eq21 {m : Met} {n : Int} (K L : Nat) (hn : -(L : Int) ≤ n ∧ n ≤ L) (haa : -(K : Int) ≤ m.aa ∧ m.aa ≤ K) (hbb : -(K : Int) ≤ m.bb ∧ m.bb ≤ K) (hcc : -(K : Int) ≤ m.cc ∧ m.cc ≤ K) (hbc : -(K : Int) ≤ m.bc ∧ m.bc ≤ K) (hac : -(K : Int) ≤ m.ac ∧ m.ac ≤ K) (hab : -(K : Int) ≤ m.ab ∧ m.ab ≤ K) (hKL : (K : Int) + L * K + L * (K + L * K) < 9223372036854775807) : aw21 n m = ad21 n m ∧ (-((K : Int) + L * K + L * (K + L * K)) ≤ (ad21 n m).aa ∧ (ad21 n m).aa ≤ (K : Int) + L * K + L * (K + L * K)) ∧ (-((K : Int) + L * K + L * (K + L * K)) ≤ (ad21 n m).bb ∧ (ad21 n m).bb ≤ (K : Int) + L * K + L * (K + L * K)) ∧ (-((K : Int) + L * K + L * (K + L * K)) ≤ (ad21 n m).cc ∧ (ad21 n m).cc ≤ (K : Int) + L * K + L * (K + L * K)) ∧ (-((K : Int) + L * K + L * (K + L * K)) ≤ (ad21 n m).bc ∧ (ad21 n m).bc ≤ (K : Int) + L * K + L * (K + L * K)) ∧ (-((K : Int) + L * K + L * (K + L * K)) ≤ (ad21 n m).ac ∧ (ad21 n m).ac ≤ (K : Int) + L * K + L * (K + L * K)) ∧ (-((K : Int) + L * K + L * (K + L * K)) ≤ (ad21 n m).ab ∧ (ad21 n m).ab ≤ (K : Int) + L * K + L * (K + L * K)) := by
  have m0 := mulk (x := n) (y := m.ab) L K hn hab
  have m1 := mulk (x := n) (y := m.bb) L K hn hbb
  have m2 := mulk (x := n) (y := m.bc) L K hn hbc
  have mm := mulk (x := n) (y := m.bc + n * m.bb) L (K + L * K) hn (by have := m1; simp only [Int.natCast_mul, Int.natCast_add] at *; omega)
  simp only [Int.natCast_mul, Int.natCast_add] at *
  have p0 : (0 : Int) ≤ (L : Int) * K := Int.mul_nonneg (by omega) (by omega)
  have p1 : (0 : Int) ≤ (L : Int) * (K + L * K) := Int.mul_nonneg (by omega) (by omega)
  refine ⟨?_, ?_⟩
  · simp only [aw21, ad21, Met.mk.injEq]
    refine ⟨?_, ?_, ?_, ?_, ?_, ?_⟩ <;> first | exact True.intro | rfl | (refine wrapE ?_ ?_ <;> omega)
  · simp only [ad21]
    refine ⟨?_, ?_, ?_, ?_, ?_, ?_⟩ <;> omega
end Go.Proofs.Ytdhlkhockpblhaa
