/-
  DocShortest: what holds in its loops.
-/
import Derived.Test.YtdhlkhockpblhaaRedK5
namespace Go.Proofs.Ytdhlkhockpblhaa
open Go.RowKit
attribute [local irreducible] World.setCell

set_option linter.unusedSimpArgs false
set_option linter.unusedVariables false

def PI3 (k : Nat) (g : Met) : Prop := (0 < k → K01 g ∧ K02 g ∧ S00 g ∧ S01 g ∧ S02 g ∧ S03 g) ∧ (1 < k → K10 g ∧ K12 g ∧ S10 g ∧ S11 g ∧ S12 g ∧ S13 g) ∧ (2 < k → K20 g ∧ K21 g ∧ S20 g ∧ S21 g ∧ S22 g ∧ S23 g)
def PJ0 (j : Nat) (g : Met) : Prop := (1 < j → K01 g) ∧ (2 < j → K02 g)
def PN0 (n : Nat) (g : Met) : Prop := (0 < n → S00 g) ∧ (1 < n → S01 g) ∧ (2 < n → S02 g) ∧ (3 < n → S03 g)
def PJ1 (j : Nat) (g : Met) : Prop := (0 < j → K10 g) ∧ (2 < j → K12 g)
def PN1 (n : Nat) (g : Met) : Prop := (0 < n → S10 g) ∧ (1 < n → S11 g) ∧ (2 < n → S12 g) ∧ (3 < n → S13 g)
def PJ2 (j : Nat) (g : Met) : Prop := (0 < j → K20 g) ∧ (1 < j → K21 g)
def PN2 (n : Nat) (g : Met) : Prop := (0 < n → S20 g) ∧ (1 < n → S21 g) ∧ (2 < n → S22 g) ∧ (3 < n → S23 g)
theorem pi_end {g : Met} (h : PI3 3 g) : EndC g := by
  obtain ⟨h0, h1, h2⟩ := h
  have a := h0 (by omega); have b := h1 (by omega); have c := h2 (by omega)
  obtain ⟨a1, a2, a3, a4, a5, a6⟩ := a
  obtain ⟨b1, b2, b3, b4, b5, b6⟩ := b
  obtain ⟨c1, c2, c3, c4, c5, c6⟩ := c
  simp only [K01, K02, S00, S01, S02, S03, K10, K12, S10, S11, S12, S13, K20, K21, S20, S21, S22, S23] at *
  constructor <;> omega
def cellI (w : World) (b o : Nat) : Int := match w.cell? ⟨b, o, none⟩ with | some (.int _ v) => v | _ => 0
def trW (w : World) (b : Nat) : Int := cellI w b 0 + cellI w b 4 + cellI w b 8
def bN : Value → Nat
  | .bool true => 1
  | _ => 0
structure CI (W0 : World) (B bg : Nat) (g : Met) (wr : World) : Prop where
  below : Below B W0 wr
  zg : bg < wr.heap.size
  zB : B ≤ bg
  fz : ∀ o, wr.frozen? ⟨bg, o, none⟩ = false
  c0 : wr.cell? ⟨bg, 0, none⟩ = some (.int .i64 g.aa)
  c1 : wr.cell? ⟨bg, 1, none⟩ = some (.int .i64 g.ab)
  c2 : wr.cell? ⟨bg, 2, none⟩ = some (.int .i64 g.ac)
  c3 : wr.cell? ⟨bg, 3, none⟩ = some (.int .i64 g.ab)
  c4 : wr.cell? ⟨bg, 4, none⟩ = some (.int .i64 g.bb)
  c5 : wr.cell? ⟨bg, 5, none⟩ = some (.int .i64 g.bc)
  c6 : wr.cell? ⟨bg, 6, none⟩ = some (.int .i64 g.ac)
  c7 : wr.cell? ⟨bg, 7, none⟩ = some (.int .i64 g.bc)
  c8 : wr.cell? ⟨bg, 8, none⟩ = some (.int .i64 g.cc)
theorem CI.tr {W0 : World} {B bg : Nat} {g : Met} {wr : World} (h : CI W0 B bg g wr) : trW wr bg = tr3 g := by
  unfold trW cellI tr3
  rw [h.c0, h.c4, h.c8]
theorem DocShort_bad (m : Met) (C : Int) (w : World) : True := trivial
end Go.Proofs.Ytdhlkhockpblhaa
