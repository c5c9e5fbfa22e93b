/-
  No cell of these rows narrows 'for every input' (looked for: loops, veiled, ifaces, maps, wideKeys, modest, calm, conditions, laid).
  DERIVED. THE GIVEN ROWS OF THIS SEAT. 7 by the template 'for every input the law returns true; each argument reads behind the call as it read before'; 0 by the template 'total and deterministic' (their statements: YtdhlkhockpblhaaTotals.lean).
  GIVEN WITH THE SEED: the statements are not yours to turn. If you find one false, say at which input.
  Laid BY PROGRAM, IN A SANDBOX (cutbox-rows.mjs): the forced cells as the released guide's own fill.sh prints them over the translation 0a6ff693ae249db7… (all of the seat's roots in one cut). By AI agents, Wed Nov 11 2026. No macro, syntax, notation, axiom, sorry.
-/
import Derived.Test.YtdhlkhockpblhaaChecked
import GoSem.Claim
import GoSem.ClaimJoined
import GoSem.ClaimMapViews
import Derived.JoinedTies
import Derived.KernelRfl
namespace Go.Proofs.Ytdhlkhockpblhaa
/- THE CELL 'sum', in the pinned program and in every row, IS THE sha256 OF THE DUMP (.gsa) THAT YtdhlkhockpblhaaProg.lean LOADS. Nothing in Lean hashes anything: it is a label: what it is worth is what the hold of that sum in a sandbox is worth. -/
noncomputable def Try.pinned : Pinned := { name := "ytdhlkhockpblhaa", sum := "0a6ff693ae249db787c2e9dc0dde5201c11087c5cc81caba89b51864b27d347c", checked := Try.checked }
namespace Rows
def none {H : Type} : Left H := { results := [], args := [] }

/-- 'facetlaw12.ReduceSteps': WHATEVER THE INPUT: true; the input reads as it did. -/
def reduceStepsSpec : ChangeSpec := { name := "reduceSteps", fn := fun _ => fun
  | [d] => { results := [.lit (.bool true)], args := [d] }
  | _ => none }
def reduceStepsRow : OpenClaim := { program := "ytdhlkhockpblhaa", sum := "0a6ff693ae249db787c2e9dc0dde5201c11087c5cc81caba89b51864b27d347c", func := "facet/facetlaw12.ReduceSteps", spec := "reduceSteps", apart := false }
def ReduceStepsSaid : Prop := reduceStepsRow.holds Try.pinned (OpenSpec.ofChange reduceStepsSpec)

/-- ITS FALSE NEIGHBOUR: 'it returns false'. Refute it at one input. -/
def reduceStepsWrong : ChangeSpec := { name := "reduceSteps", fn := fun _ => fun
  | [d] => { results := [.lit (.bool false)], args := [d] }
  | _ => none }
def ReduceStepsWrongFalsely : Prop := reduceStepsRow.holds Try.pinned (OpenSpec.ofChange reduceStepsWrong)

/-- 'facetlaw12.ReduceObtuses': WHATEVER THE INPUT: true; the input reads as it did. -/
def reduceObtusesSpec : ChangeSpec := { name := "reduceObtuses", fn := fun _ => fun
  | [d] => { results := [.lit (.bool true)], args := [d] }
  | _ => none }
def reduceObtusesRow : OpenClaim := { program := "ytdhlkhockpblhaa", sum := "0a6ff693ae249db787c2e9dc0dde5201c11087c5cc81caba89b51864b27d347c", func := "facet/facetlaw12.ReduceObtuses", spec := "reduceObtuses", apart := false }
def ReduceObtusesSaid : Prop := reduceObtusesRow.holds Try.pinned (OpenSpec.ofChange reduceObtusesSpec)

/-- ITS FALSE NEIGHBOUR: 'it returns false'. Refute it at one input. -/
def reduceObtusesWrong : ChangeSpec := { name := "reduceObtuses", fn := fun _ => fun
  | [d] => { results := [.lit (.bool false)], args := [d] }
  | _ => none }
def ReduceObtusesWrongFalsely : Prop := reduceObtusesRow.holds Try.pinned (OpenSpec.ofChange reduceObtusesWrong)

/-- 'facetlaw12.ReduceFalls': WHATEVER THE INPUT: true; the input reads as it did. -/
def reduceFallsSpec : ChangeSpec := { name := "reduceFalls", fn := fun _ => fun
  | [d] => { results := [.lit (.bool true)], args := [d] }
  | _ => none }
def reduceFallsRow : OpenClaim := { program := "ytdhlkhockpblhaa", sum := "0a6ff693ae249db787c2e9dc0dde5201c11087c5cc81caba89b51864b27d347c", func := "facet/facetlaw12.ReduceFalls", spec := "reduceFalls", apart := false }
def ReduceFallsSaid : Prop := reduceFallsRow.holds Try.pinned (OpenSpec.ofChange reduceFallsSpec)

/-- ITS FALSE NEIGHBOUR: 'it returns false'. Refute it at one input. -/
def reduceFallsWrong : ChangeSpec := { name := "reduceFalls", fn := fun _ => fun
  | [d] => { results := [.lit (.bool false)], args := [d] }
  | _ => none }
def ReduceFallsWrongFalsely : Prop := reduceFallsRow.holds Try.pinned (OpenSpec.ofChange reduceFallsWrong)

/-- 'facetlaw12.ReduceEnds': WHATEVER THE INPUT: true; the input reads as it did. -/
def reduceEndsSpec : ChangeSpec := { name := "reduceEnds", fn := fun _ => fun
  | [d] => { results := [.lit (.bool true)], args := [d] }
  | _ => none }
def reduceEndsRow : OpenClaim := { program := "ytdhlkhockpblhaa", sum := "0a6ff693ae249db787c2e9dc0dde5201c11087c5cc81caba89b51864b27d347c", func := "facet/facetlaw12.ReduceEnds", spec := "reduceEnds", apart := false }
def ReduceEndsSaid : Prop := reduceEndsRow.holds Try.pinned (OpenSpec.ofChange reduceEndsSpec)

/-- ITS FALSE NEIGHBOUR: 'it returns false'. Refute it at one input. -/
def reduceEndsWrong : ChangeSpec := { name := "reduceEnds", fn := fun _ => fun
  | [d] => { results := [.lit (.bool false)], args := [d] }
  | _ => none }
def ReduceEndsWrongFalsely : Prop := reduceEndsRow.holds Try.pinned (OpenSpec.ofChange reduceEndsWrong)

/-- 'facetlaw12.ReduceTurneds': WHATEVER THE INPUT: true; the input reads as it did. -/
def reduceTurnedsSpec : ChangeSpec := { name := "reduceTurneds", fn := fun _ => fun
  | [d1, d2] => { results := [.lit (.bool true)], args := [d1, d2] }
  | _ => none }
def reduceTurnedsRow : OpenClaim := { program := "ytdhlkhockpblhaa", sum := "0a6ff693ae249db787c2e9dc0dde5201c11087c5cc81caba89b51864b27d347c", func := "facet/facetlaw12.ReduceTurneds", spec := "reduceTurneds", apart := false }
def ReduceTurnedsSaid : Prop := reduceTurnedsRow.holds Try.pinned (OpenSpec.ofChange reduceTurnedsSpec)

/-- ITS FALSE NEIGHBOUR: 'it returns false'. Refute it at one input. -/
def reduceTurnedsWrong : ChangeSpec := { name := "reduceTurneds", fn := fun _ => fun
  | [d1, d2] => { results := [.lit (.bool false)], args := [d1, d2] }
  | _ => none }
def ReduceTurnedsWrongFalsely : Prop := reduceTurnedsRow.holds Try.pinned (OpenSpec.ofChange reduceTurnedsWrong)

/-- 'facetlaw12.ReduceVectors': WHATEVER THE INPUT: true; the input reads as it did. -/
def reduceVectorsSpec : ChangeSpec := { name := "reduceVectors", fn := fun _ => fun
  | [d1, d2, d3] => { results := [.lit (.bool true)], args := [d1, d2, d3] }
  | _ => none }
def reduceVectorsRow : OpenClaim := { program := "ytdhlkhockpblhaa", sum := "0a6ff693ae249db787c2e9dc0dde5201c11087c5cc81caba89b51864b27d347c", func := "facet/facetlaw12.ReduceVectors", spec := "reduceVectors", apart := false }
def ReduceVectorsSaid : Prop := reduceVectorsRow.holds Try.pinned (OpenSpec.ofChange reduceVectorsSpec)

/-- ITS FALSE NEIGHBOUR: 'it returns false'. Refute it at one input. -/
def reduceVectorsWrong : ChangeSpec := { name := "reduceVectors", fn := fun _ => fun
  | [d1, d2, d3] => { results := [.lit (.bool false)], args := [d1, d2, d3] }
  | _ => none }
def ReduceVectorsWrongFalsely : Prop := reduceVectorsRow.holds Try.pinned (OpenSpec.ofChange reduceVectorsWrong)

/-- 'facettop.WholeCells': WHATEVER THE INPUT: true; the input reads as it did. -/
def wholeCellsSpec : ChangeSpec := { name := "wholeCells", fn := fun _ => fun
  | [d1, d2, d3, d4, d5] => { results := [.lit (.bool true)], args := [d1, d2, d3, d4, d5] }
  | _ => none }
def wholeCellsRow : OpenClaim := { program := "ytdhlkhockpblhaa", sum := "0a6ff693ae249db787c2e9dc0dde5201c11087c5cc81caba89b51864b27d347c", func := "facet/facettop.WholeCells", spec := "wholeCells", apart := false }
def WholeCellsSaid : Prop := wholeCellsRow.holds Try.pinned (OpenSpec.ofChange wholeCellsSpec)

/-- ITS FALSE NEIGHBOUR: 'it returns false'. Refute it at one input. -/
def wholeCellsWrong : ChangeSpec := { name := "wholeCells", fn := fun _ => fun
  | [d1, d2, d3, d4, d5] => { results := [.lit (.bool false)], args := [d1, d2, d3, d4, d5] }
  | _ => none }
def WholeCellsWrongFalsely : Prop := wholeCellsRow.holds Try.pinned (OpenSpec.ofChange wholeCellsWrong)

/- THE SECOND FORM. 'bulk': how many values and letters a reading holds, each counted each time it is reached (what is shared counts as often as it is met; a slice's spare places count too). A statement '..UptoSaid' is the law's where the arguments, and the package variables that the reading takes, are together of bulk at most 1048576: NARROWER than '..Said'. Prove '..Said' where nothing that the law and all that it calls make is longer than what came in: it says more and counts as full. Else prove '..UptoSaid'. A law counts once. -/
mutual
def uptoBulk {H : Type} : DataW H → Nat
  | .lit (.string bytes) => bytes.length + 1
  | .lit _ => 1
  | .nil => 1
  | .ptr d => uptoBulk d + 1
  | .slice elems spare => uptoBulkAll elems + uptoBulkAll spare + 1
  | .agg parts => uptoBulkAll parts + 1
  | .iface _ d => uptoBulk d + 1
  | .map entries => uptoBulkEntries entries + 1
  | .held _ => 1
def uptoBulkAll {H : Type} : List (DataW H) → Nat
  | [] => 0
  | d :: r => uptoBulk d + uptoBulkAll r
def uptoBulkEntries {H : Type} : List (Lit × DataW H) → Nat
  | [] => 0
  | x :: r => uptoBulkEntry x + uptoBulkEntries r
def uptoBulkEntry {H : Type} : Lit × DataW H → Nat
  | (.string bytes, d) => bytes.length + uptoBulk d + 1
  | (_, d) => uptoBulk d + 1
 end
def uptoSmall : (H : Type) → List (DataW H) → Bool := fun _ ds => decide (uptoBulkAll ds ≤ 1048576)
def OpenSpec.upto (s : _root_.Go.ChangeSpec) : _root_.Go.OpenSpec := { _root_.Go.OpenSpec.ofChange s with cond := some uptoSmall }

/-- 'facetlaw12.ReduceSteps', WHERE WHAT IT READS IS OF BULK AT MOST 1048576: true; the input reads as it did. -/
def reduceStepsUptoRow : OpenClaim := { program := "ytdhlkhockpblhaa", sum := "0a6ff693ae249db787c2e9dc0dde5201c11087c5cc81caba89b51864b27d347c", func := "facet/facetlaw12.ReduceSteps", spec := "reduceSteps", apart := false, narrowed := true }
def ReduceStepsUptoSaid : Prop := reduceStepsUptoRow.holds Try.pinned (OpenSpec.upto reduceStepsSpec)

/-- 'facetlaw12.ReduceObtuses', WHERE WHAT IT READS IS OF BULK AT MOST 1048576: true; the input reads as it did. -/
def reduceObtusesUptoRow : OpenClaim := { program := "ytdhlkhockpblhaa", sum := "0a6ff693ae249db787c2e9dc0dde5201c11087c5cc81caba89b51864b27d347c", func := "facet/facetlaw12.ReduceObtuses", spec := "reduceObtuses", apart := false, narrowed := true }
def ReduceObtusesUptoSaid : Prop := reduceObtusesUptoRow.holds Try.pinned (OpenSpec.upto reduceObtusesSpec)

/-- 'facetlaw12.ReduceFalls', WHERE WHAT IT READS IS OF BULK AT MOST 1048576: true; the input reads as it did. -/
def reduceFallsUptoRow : OpenClaim := { program := "ytdhlkhockpblhaa", sum := "0a6ff693ae249db787c2e9dc0dde5201c11087c5cc81caba89b51864b27d347c", func := "facet/facetlaw12.ReduceFalls", spec := "reduceFalls", apart := false, narrowed := true }
def ReduceFallsUptoSaid : Prop := reduceFallsUptoRow.holds Try.pinned (OpenSpec.upto reduceFallsSpec)

/-- 'facetlaw12.ReduceEnds', WHERE WHAT IT READS IS OF BULK AT MOST 1048576: true; the input reads as it did. -/
def reduceEndsUptoRow : OpenClaim := { program := "ytdhlkhockpblhaa", sum := "0a6ff693ae249db787c2e9dc0dde5201c11087c5cc81caba89b51864b27d347c", func := "facet/facetlaw12.ReduceEnds", spec := "reduceEnds", apart := false, narrowed := true }
def ReduceEndsUptoSaid : Prop := reduceEndsUptoRow.holds Try.pinned (OpenSpec.upto reduceEndsSpec)

/-- 'facetlaw12.ReduceTurneds', WHERE WHAT IT READS IS OF BULK AT MOST 1048576: true; the input reads as it did. -/
def reduceTurnedsUptoRow : OpenClaim := { program := "ytdhlkhockpblhaa", sum := "0a6ff693ae249db787c2e9dc0dde5201c11087c5cc81caba89b51864b27d347c", func := "facet/facetlaw12.ReduceTurneds", spec := "reduceTurneds", apart := false, narrowed := true }
def ReduceTurnedsUptoSaid : Prop := reduceTurnedsUptoRow.holds Try.pinned (OpenSpec.upto reduceTurnedsSpec)

/-- 'facetlaw12.ReduceVectors', WHERE WHAT IT READS IS OF BULK AT MOST 1048576: true; the input reads as it did. -/
def reduceVectorsUptoRow : OpenClaim := { program := "ytdhlkhockpblhaa", sum := "0a6ff693ae249db787c2e9dc0dde5201c11087c5cc81caba89b51864b27d347c", func := "facet/facetlaw12.ReduceVectors", spec := "reduceVectors", apart := false, narrowed := true }
def ReduceVectorsUptoSaid : Prop := reduceVectorsUptoRow.holds Try.pinned (OpenSpec.upto reduceVectorsSpec)

/-- 'facettop.WholeCells', WHERE WHAT IT READS IS OF BULK AT MOST 1048576: true; the input reads as it did. -/
def wholeCellsUptoRow : OpenClaim := { program := "ytdhlkhockpblhaa", sum := "0a6ff693ae249db787c2e9dc0dde5201c11087c5cc81caba89b51864b27d347c", func := "facet/facettop.WholeCells", spec := "wholeCells", apart := false, narrowed := true }
def WholeCellsUptoSaid : Prop := wholeCellsUptoRow.holds Try.pinned (OpenSpec.upto wholeCellsSpec)

end Rows
end Go.Proofs.Ytdhlkhockpblhaa
