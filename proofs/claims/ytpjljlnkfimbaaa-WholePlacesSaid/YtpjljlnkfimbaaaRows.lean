/-
  No cell of these rows narrows 'for every input' (looked for: loops, veiled, ifaces, maps, wideKeys, modest, calm, conditions, laid).
  DERIVED. THE GIVEN ROWS OF THIS SEAT. 7 by the template 'for every input the law returns true; each argument reads behind the call as it read before'; 0 by the template 'total and deterministic' (their statements: YtpjljlnkfimbaaaTotals.lean).
  GIVEN WITH THE SEED: the statements are not yours to turn. If you find one false, say at which input.
  Laid BY PROGRAM, IN A SANDBOX (cutbox-rows.mjs): the forced cells as the released guide's own fill.sh prints them over the translation 94e0fe27631af9f6… (all of the seat's roots in one cut). By AI agents, Wed Nov 11 2026. No macro, syntax, notation, axiom, sorry.
-/
import Derived.Test.YtpjljlnkfimbaaaChecked
import GoSem.Claim
import GoSem.ClaimJoined
import GoSem.ClaimMapViews
import Derived.JoinedTies
import Derived.KernelRfl
namespace Go.Proofs.Ytpjljlnkfimbaaa
/- THE CELL 'sum', in the pinned program and in every row, IS THE sha256 OF THE DUMP (.gsa) THAT YtpjljlnkfimbaaaProg.lean LOADS. Nothing in Lean hashes anything: it is a label: what it is worth is what the hold of that sum in a sandbox is worth. -/
noncomputable def Try.pinned : Pinned := { name := "ytpjljlnkfimbaaa", sum := "94e0fe27631af9f6b4cfdd9c1fd80802ed8fd8714aa125ea05b911d94a3fee4e", checked := Try.checked }
namespace Rows
def none {H : Type} : Left H := { results := [], args := [] }

/-- 'facetlaw02.FracPlaces': WHATEVER THE INPUT: true; the input reads as it did. -/
def fracPlacesSpec : ChangeSpec := { name := "fracPlaces", fn := fun _ => fun
  | [d1, d2, d3] => { results := [.lit (.bool true)], args := [d1, d2, d3] }
  | _ => none }
def fracPlacesRow : OpenClaim := { program := "ytpjljlnkfimbaaa", sum := "94e0fe27631af9f6b4cfdd9c1fd80802ed8fd8714aa125ea05b911d94a3fee4e", func := "facet/facetlaw02.FracPlaces", spec := "fracPlaces", unfollowed := true, recurses := true, apart := false }
def FracPlacesSaid : Prop := fracPlacesRow.holds Try.pinned (OpenSpec.ofChange fracPlacesSpec)

/-- ITS FALSE NEIGHBOUR: 'it returns false'. Refute it at one input. -/
def fracPlacesWrong : ChangeSpec := { name := "fracPlaces", fn := fun _ => fun
  | [d1, d2, d3] => { results := [.lit (.bool false)], args := [d1, d2, d3] }
  | _ => none }
def FracPlacesWrongFalsely : Prop := fracPlacesRow.holds Try.pinned (OpenSpec.ofChange fracPlacesWrong)

/-- 'facetlaw02.FracSums': WHATEVER THE INPUT: true; the input reads as it did. -/
def fracSumsSpec : ChangeSpec := { name := "fracSums", fn := fun _ => fun
  | [d1, d2, d3] => { results := [.lit (.bool true)], args := [d1, d2, d3] }
  | _ => none }
def fracSumsRow : OpenClaim := { program := "ytpjljlnkfimbaaa", sum := "94e0fe27631af9f6b4cfdd9c1fd80802ed8fd8714aa125ea05b911d94a3fee4e", func := "facet/facetlaw02.FracSums", spec := "fracSums", unfollowed := true, recurses := true, apart := false }
def FracSumsSaid : Prop := fracSumsRow.holds Try.pinned (OpenSpec.ofChange fracSumsSpec)

/-- ITS FALSE NEIGHBOUR: 'it returns false'. Refute it at one input. -/
def fracSumsWrong : ChangeSpec := { name := "fracSums", fn := fun _ => fun
  | [d1, d2, d3] => { results := [.lit (.bool false)], args := [d1, d2, d3] }
  | _ => none }
def FracSumsWrongFalsely : Prop := fracSumsRow.holds Try.pinned (OpenSpec.ofChange fracSumsWrong)

/-- 'facetlaw02.FracGroup': WHATEVER THE INPUT: true; the input reads as it did. -/
def fracGroupSpec : ChangeSpec := { name := "fracGroup", fn := fun _ => fun
  | [d1, d2, d3, d4] => { results := [.lit (.bool true)], args := [d1, d2, d3, d4] }
  | _ => none }
def fracGroupRow : OpenClaim := { program := "ytpjljlnkfimbaaa", sum := "94e0fe27631af9f6b4cfdd9c1fd80802ed8fd8714aa125ea05b911d94a3fee4e", func := "facet/facetlaw02.FracGroup", spec := "fracGroup", unfollowed := true, recurses := true, apart := false }
def FracGroupSaid : Prop := fracGroupRow.holds Try.pinned (OpenSpec.ofChange fracGroupSpec)

/-- ITS FALSE NEIGHBOUR: 'it returns false'. Refute it at one input. -/
def fracGroupWrong : ChangeSpec := { name := "fracGroup", fn := fun _ => fun
  | [d1, d2, d3, d4] => { results := [.lit (.bool false)], args := [d1, d2, d3, d4] }
  | _ => none }
def FracGroupWrongFalsely : Prop := fracGroupRow.holds Try.pinned (OpenSpec.ofChange fracGroupWrong)

/-- 'facetlaw02.FracShifts': WHATEVER THE INPUT: true; the input reads as it did. -/
def fracShiftsSpec : ChangeSpec := { name := "fracShifts", fn := fun _ => fun
  | [d1, d2, d3, d4] => { results := [.lit (.bool true)], args := [d1, d2, d3, d4] }
  | _ => none }
def fracShiftsRow : OpenClaim := { program := "ytpjljlnkfimbaaa", sum := "94e0fe27631af9f6b4cfdd9c1fd80802ed8fd8714aa125ea05b911d94a3fee4e", func := "facet/facetlaw02.FracShifts", spec := "fracShifts", unfollowed := true, recurses := true, apart := false }
def FracShiftsSaid : Prop := fracShiftsRow.holds Try.pinned (OpenSpec.ofChange fracShiftsSpec)

/-- ITS FALSE NEIGHBOUR: 'it returns false'. Refute it at one input. -/
def fracShiftsWrong : ChangeSpec := { name := "fracShifts", fn := fun _ => fun
  | [d1, d2, d3, d4] => { results := [.lit (.bool false)], args := [d1, d2, d3, d4] }
  | _ => none }
def FracShiftsWrongFalsely : Prop := fracShiftsRow.holds Try.pinned (OpenSpec.ofChange fracShiftsWrong)

/-- 'facetlaw02.FracMoves': WHATEVER THE INPUT: true; the input reads as it did. -/
def fracMovesSpec : ChangeSpec := { name := "fracMoves", fn := fun _ => fun
  | [d1, d2, d3] => { results := [.lit (.bool true)], args := [d1, d2, d3] }
  | _ => none }
def fracMovesRow : OpenClaim := { program := "ytpjljlnkfimbaaa", sum := "94e0fe27631af9f6b4cfdd9c1fd80802ed8fd8714aa125ea05b911d94a3fee4e", func := "facet/facetlaw02.FracMoves", spec := "fracMoves", unfollowed := true, recurses := true, apart := false }
def FracMovesSaid : Prop := fracMovesRow.holds Try.pinned (OpenSpec.ofChange fracMovesSpec)

/-- ITS FALSE NEIGHBOUR: 'it returns false'. Refute it at one input. -/
def fracMovesWrong : ChangeSpec := { name := "fracMoves", fn := fun _ => fun
  | [d1, d2, d3] => { results := [.lit (.bool false)], args := [d1, d2, d3] }
  | _ => none }
def FracMovesWrongFalsely : Prop := fracMovesRow.holds Try.pinned (OpenSpec.ofChange fracMovesWrong)

/-- 'facetlaw02.FracTotal': WHATEVER THE INPUT: true; the input reads as it did. -/
def fracTotalSpec : ChangeSpec := { name := "fracTotal", fn := fun _ => fun
  | [d1, d2, d3] => { results := [.lit (.bool true)], args := [d1, d2, d3] }
  | _ => none }
def fracTotalRow : OpenClaim := { program := "ytpjljlnkfimbaaa", sum := "94e0fe27631af9f6b4cfdd9c1fd80802ed8fd8714aa125ea05b911d94a3fee4e", func := "facet/facetlaw02.FracTotal", spec := "fracTotal", unfollowed := true, recurses := true, apart := false }
def FracTotalSaid : Prop := fracTotalRow.holds Try.pinned (OpenSpec.ofChange fracTotalSpec)

/-- ITS FALSE NEIGHBOUR: 'it returns false'. Refute it at one input. -/
def fracTotalWrong : ChangeSpec := { name := "fracTotal", fn := fun _ => fun
  | [d1, d2, d3] => { results := [.lit (.bool false)], args := [d1, d2, d3] }
  | _ => none }
def FracTotalWrongFalsely : Prop := fracTotalRow.holds Try.pinned (OpenSpec.ofChange fracTotalWrong)

/-- 'facettop.WholePlaces': WHATEVER THE INPUT: true; the input reads as it did. -/
def wholePlacesSpec : ChangeSpec := { name := "wholePlaces", fn := fun _ => fun
  | [d1, d2, d3, d4, d5] => { results := [.lit (.bool true)], args := [d1, d2, d3, d4, d5] }
  | _ => none }
def wholePlacesRow : OpenClaim := { program := "ytpjljlnkfimbaaa", sum := "94e0fe27631af9f6b4cfdd9c1fd80802ed8fd8714aa125ea05b911d94a3fee4e", func := "facet/facettop.WholePlaces", spec := "wholePlaces", unfollowed := true, recurses := true, apart := false }
def WholePlacesSaid : Prop := wholePlacesRow.holds Try.pinned (OpenSpec.ofChange wholePlacesSpec)

/-- ITS FALSE NEIGHBOUR: 'it returns false'. Refute it at one input. -/
def wholePlacesWrong : ChangeSpec := { name := "wholePlaces", fn := fun _ => fun
  | [d1, d2, d3, d4, d5] => { results := [.lit (.bool false)], args := [d1, d2, d3, d4, d5] }
  | _ => none }
def WholePlacesWrongFalsely : Prop := wholePlacesRow.holds Try.pinned (OpenSpec.ofChange wholePlacesWrong)

/- THE SECOND FORM. 'bulk': how many values and letters a reading holds, each counted each time it is reached (what is shared counts as often as it is met; a slice's spare places count too). A statement '..UptoSaid' is the law's where the arguments, and the package variables that the reading takes, are together of bulk at most 1048576: NARROWER than '..Said'. Prove '..Said' where nothing that the law and all that it calls make is longer than what came in: it says more and counts as full. Else prove '..UptoSaid'. A law counts once. -/
mutual
def uptoBulk {H : Type} : DataW H → Nat
  | .lit (.string bytes) => bytes.length + 1
  | .lit _ => 1
  | .nil => 1
  | .ptr d => uptoBulk d + 1
  | .slice elems spare => uptoBulkAll elems + uptoBulkAll spare + 1
  | .agg parts => uptoBulkAll parts + 1
  | .iface _ d => uptoBulk d + 1
  | .map entries => uptoBulkEntries entries + 1
  | .held _ => 1
def uptoBulkAll {H : Type} : List (DataW H) → Nat
  | [] => 0
  | d :: r => uptoBulk d + uptoBulkAll r
def uptoBulkEntries {H : Type} : List (Lit × DataW H) → Nat
  | [] => 0
  | x :: r => uptoBulkEntry x + uptoBulkEntries r
def uptoBulkEntry {H : Type} : Lit × DataW H → Nat
  | (.string bytes, d) => bytes.length + uptoBulk d + 1
  | (_, d) => uptoBulk d + 1
 end
def uptoSmall : (H : Type) → List (DataW H) → Bool := fun _ ds => decide (uptoBulkAll ds ≤ 1048576)
def OpenSpec.upto (s : _root_.Go.ChangeSpec) : _root_.Go.OpenSpec := { _root_.Go.OpenSpec.ofChange s with cond := some uptoSmall }

/-- 'facetlaw02.FracPlaces', WHERE WHAT IT READS IS OF BULK AT MOST 1048576: true; the input reads as it did. -/
def fracPlacesUptoRow : OpenClaim := { program := "ytpjljlnkfimbaaa", sum := "94e0fe27631af9f6b4cfdd9c1fd80802ed8fd8714aa125ea05b911d94a3fee4e", func := "facet/facetlaw02.FracPlaces", spec := "fracPlaces", unfollowed := true, recurses := true, apart := false, narrowed := true }
def FracPlacesUptoSaid : Prop := fracPlacesUptoRow.holds Try.pinned (OpenSpec.upto fracPlacesSpec)

/-- 'facetlaw02.FracSums', WHERE WHAT IT READS IS OF BULK AT MOST 1048576: true; the input reads as it did. -/
def fracSumsUptoRow : OpenClaim := { program := "ytpjljlnkfimbaaa", sum := "94e0fe27631af9f6b4cfdd9c1fd80802ed8fd8714aa125ea05b911d94a3fee4e", func := "facet/facetlaw02.FracSums", spec := "fracSums", unfollowed := true, recurses := true, apart := false, narrowed := true }
def FracSumsUptoSaid : Prop := fracSumsUptoRow.holds Try.pinned (OpenSpec.upto fracSumsSpec)

/-- 'facetlaw02.FracGroup', WHERE WHAT IT READS IS OF BULK AT MOST 1048576: true; the input reads as it did. -/
def fracGroupUptoRow : OpenClaim := { program := "ytpjljlnkfimbaaa", sum := "94e0fe27631af9f6b4cfdd9c1fd80802ed8fd8714aa125ea05b911d94a3fee4e", func := "facet/facetlaw02.FracGroup", spec := "fracGroup", unfollowed := true, recurses := true, apart := false, narrowed := true }
def FracGroupUptoSaid : Prop := fracGroupUptoRow.holds Try.pinned (OpenSpec.upto fracGroupSpec)

/-- 'facetlaw02.FracShifts', WHERE WHAT IT READS IS OF BULK AT MOST 1048576: true; the input reads as it did. -/
def fracShiftsUptoRow : OpenClaim := { program := "ytpjljlnkfimbaaa", sum := "94e0fe27631af9f6b4cfdd9c1fd80802ed8fd8714aa125ea05b911d94a3fee4e", func := "facet/facetlaw02.FracShifts", spec := "fracShifts", unfollowed := true, recurses := true, apart := false, narrowed := true }
def FracShiftsUptoSaid : Prop := fracShiftsUptoRow.holds Try.pinned (OpenSpec.upto fracShiftsSpec)

/-- 'facetlaw02.FracMoves', WHERE WHAT IT READS IS OF BULK AT MOST 1048576: true; the input reads as it did. -/
def fracMovesUptoRow : OpenClaim := { program := "ytpjljlnkfimbaaa", sum := "94e0fe27631af9f6b4cfdd9c1fd80802ed8fd8714aa125ea05b911d94a3fee4e", func := "facet/facetlaw02.FracMoves", spec := "fracMoves", unfollowed := true, recurses := true, apart := false, narrowed := true }
def FracMovesUptoSaid : Prop := fracMovesUptoRow.holds Try.pinned (OpenSpec.upto fracMovesSpec)

/-- 'facetlaw02.FracTotal', WHERE WHAT IT READS IS OF BULK AT MOST 1048576: true; the input reads as it did. -/
def fracTotalUptoRow : OpenClaim := { program := "ytpjljlnkfimbaaa", sum := "94e0fe27631af9f6b4cfdd9c1fd80802ed8fd8714aa125ea05b911d94a3fee4e", func := "facet/facetlaw02.FracTotal", spec := "fracTotal", unfollowed := true, recurses := true, apart := false, narrowed := true }
def FracTotalUptoSaid : Prop := fracTotalUptoRow.holds Try.pinned (OpenSpec.upto fracTotalSpec)

/-- 'facettop.WholePlaces', WHERE WHAT IT READS IS OF BULK AT MOST 1048576: true; the input reads as it did. -/
def wholePlacesUptoRow : OpenClaim := { program := "ytpjljlnkfimbaaa", sum := "94e0fe27631af9f6b4cfdd9c1fd80802ed8fd8714aa125ea05b911d94a3fee4e", func := "facet/facettop.WholePlaces", spec := "wholePlaces", unfollowed := true, recurses := true, apart := false, narrowed := true }
def WholePlacesUptoSaid : Prop := wholePlacesUptoRow.holds Try.pinned (OpenSpec.upto wholePlacesSpec)

end Rows
end Go.Proofs.Ytpjljlnkfimbaaa
