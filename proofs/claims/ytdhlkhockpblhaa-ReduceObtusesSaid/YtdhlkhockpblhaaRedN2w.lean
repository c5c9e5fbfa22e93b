/-
  DocObtuse, the walk.
-/
import Derived.Test.YtdhlkhockpblhaaRedN1
import Derived.Test.YtdhlkhockpblhaaRedRL
namespace Go.Proofs.Ytdhlkhockpblhaa
open Go.RowKit
attribute [local irreducible] World.setCell

set_option linter.unusedSimpArgs false
set_option linter.unusedVariables false

theorem s2_refl (V : World) (bf : Nat) : (∀ o, V.cell? ⟨bf, o, none⟩ = V.cell? ⟨bf, o, none⟩) ∧ (∀ o, V.cell? ⟨bf + 1, o, none⟩ = V.cell? ⟨bf + 1, o, none⟩) := ⟨fun _ => rfl, fun _ => rfl⟩
theorem s2_drew {V x : World} {bf : Nat} (h : (∀ o, x.cell? ⟨bf, o, none⟩ = V.cell? ⟨bf, o, none⟩) ∧ (∀ o, x.cell? ⟨bf + 1, o, none⟩ = V.cell? ⟨bf + 1, o, none⟩)) : (∀ o, x.drew.cell? ⟨bf, o, none⟩ = V.cell? ⟨bf, o, none⟩) ∧ (∀ o, x.drew.cell? ⟨bf + 1, o, none⟩ = V.cell? ⟨bf + 1, o, none⟩) := h
theorem s2_call {V x y : World} {bf : Nat} (h : (∀ o, x.cell? ⟨bf, o, none⟩ = V.cell? ⟨bf, o, none⟩) ∧ (∀ o, x.cell? ⟨bf + 1, o, none⟩ = V.cell? ⟨bf + 1, o, none⟩)) (hb : Below x.heap.size x y) (h1 : bf < x.heap.size) (h2 : bf + 1 < x.heap.size) : (∀ o, y.cell? ⟨bf, o, none⟩ = V.cell? ⟨bf, o, none⟩) ∧ (∀ o, y.cell? ⟨bf + 1, o, none⟩ = V.cell? ⟨bf + 1, o, none⟩) := ⟨fun o => (hb.cell (p := ⟨bf, o, none⟩) h1).trans (h.1 o), fun o => (hb.cell (p := ⟨bf + 1, o, none⟩) h2).trans (h.2 o)⟩
theorem s2_set {V x : World} {bf : Nat} (h : (∀ o, x.cell? ⟨bf, o, none⟩ = V.cell? ⟨bf, o, none⟩) ∧ (∀ o, x.cell? ⟨bf + 1, o, none⟩ = V.cell? ⟨bf + 1, o, none⟩)) (p : Addr) (v : Value) (h1 : p.block ≠ bf) (h2 : p.block ≠ bf + 1) : (∀ o, (x.setCell p v).cell? ⟨bf, o, none⟩ = V.cell? ⟨bf, o, none⟩) ∧ (∀ o, (x.setCell p v).cell? ⟨bf + 1, o, none⟩ = V.cell? ⟨bf + 1, o, none⟩) := ⟨fun o => (World.cell?_setCell_far x p ⟨bf, o, none⟩ v h1).trans (h.1 o), fun o => (World.cell?_setCell_far x p ⟨bf + 1, o, none⟩ v h2).trans (h.2 o)⟩
abbrev F16 (m : Met) : List Value := [.int .i64 (lf m 0), .int .i64 (lf m 1), .int .i64 (lf m 2), .int .i64 (lf m 3), .int .i64 (lf m 4), .int .i64 (lf m 5), .int .i64 (lf m 6), .int .i64 (lf m 7), .int .i64 (lf m 8), .int .i64 (lf m 9), .int .i64 (lf m 10), .int .i64 (lf m 11), .int .i64 (lf m 12), .int .i64 (lf m 13), .int .i64 (lf m 14), .int .i64 (lf m 15)]
abbrev F9 (p : Mt) : List Value := [.int .i64 p.p00, .int .i64 p.p01, .int .i64 p.p02, .int .i64 p.p10, .int .i64 p.p11, .int .i64 p.p12, .int .i64 p.p20, .int .i64 p.p21, .int .i64 p.p22]
abbrev Z6 : List Value := [.int .i64 0, .int .i64 0, .int .i64 0, .int .i64 0, .int .i64 0, .int .i64 0]
abbrev Z9 : List Value := [.int .i64 0, .int .i64 0, .int .i64 0, .int .i64 0, .int .i64 0, .int .i64 0, .int .i64 0, .int .i64 0, .int .i64 0]
abbrev M6 (m : Met) : List Value := [.int .i64 m.aa, .int .i64 m.bb, .int .i64 m.cc, .int .i64 m.bc, .int .i64 m.ac, .int .i64 m.ab]
/-- The first loop of a code. -/
def firstLoop : Code → Option Code
  | .loop c => some c
  | .seq a b => match firstLoop a with
    | some c => some c
    | none => firstLoop b
  | .block _ c => firstLoop c
  | .scope c => firstLoop c
  | .cond _ a b => match firstLoop a with
    | some c => some c
    | none => firstLoop b
  | _ => none
end Go.Proofs.Ytdhlkhockpblhaa
