/-
  No cell of these rows narrows 'for every input' (looked for: loops, veiled, ifaces, maps, wideKeys, modest, calm, conditions, laid).
  DERIVED. THE GIVEN ROWS OF THIS SEAT. 10 by the template 'for every input the law returns true; each argument reads behind the call as it read before'; 0 by the template 'total and deterministic' (their statements: YtjmhnmlmnlefaaaTotals.lean).
  GIVEN WITH THE SEED: the statements are not yours to turn. If you find one false, say at which input.
  Laid BY PROGRAM, IN A SANDBOX (cutbox-rows.mjs): the forced cells as the released guide's own fill.sh prints them over the translation de7af54928e8a9ab… (all of the seat's roots in one cut). By AI agents, Wed Nov 11 2026. No macro, syntax, notation, axiom, sorry.
-/
import Derived.Test.YtjmhnmlmnlefaaaChecked
import GoSem.Claim
import GoSem.ClaimJoined
import GoSem.ClaimMapViews
import Derived.JoinedTies
import Derived.KernelRfl
namespace Go.Proofs.Ytjmhnmlmnlefaaa
/- THE CELL 'sum', in the pinned program and in every row, IS THE sha256 OF THE DUMP (.gsa) THAT YtjmhnmlmnlefaaaProg.lean LOADS. Nothing in Lean hashes anything: it is a label: what it is worth is what the hold of that sum in a sandbox is worth. -/
noncomputable def Try.pinned : Pinned := { name := "ytjmhnmlmnlefaaa", sum := "de7af54928e8a9ab030d693be9f4e87a1bb42c13414a521733b0cea3bb4882dd", checked := Try.checked }
namespace Rows
def none {H : Type} : Left H := { results := [], args := [] }

/-- 'facetlaw21.NttFolds': WHATEVER THE INPUT: true; the input reads as it did. -/
def nttFoldsSpec : ChangeSpec := { name := "nttFolds", fn := fun _ => fun
  | [d1, d2] => { results := [.lit (.bool true)], args := [d1, d2] }
  | _ => none }
def nttFoldsRow : OpenClaim := { program := "ytjmhnmlmnlefaaa", sum := "de7af54928e8a9ab030d693be9f4e87a1bb42c13414a521733b0cea3bb4882dd", func := "facet/facetlaw21.NttFolds", spec := "nttFolds", inPlace := ["math/bits.Add64"], unfollowed := true, recurses := true, named := ["math/bits.divideError", "math/bits.overflowError"], apart := false }
def NttFoldsSaid : Prop := nttFoldsRow.holds Try.pinned (OpenSpec.ofChange nttFoldsSpec)

/-- ITS FALSE NEIGHBOUR: 'it returns false'. Refute it at one input. -/
def nttFoldsWrong : ChangeSpec := { name := "nttFolds", fn := fun _ => fun
  | [d1, d2] => { results := [.lit (.bool false)], args := [d1, d2] }
  | _ => none }
def NttFoldsWrongFalsely : Prop := nttFoldsRow.holds Try.pinned (OpenSpec.ofChange nttFoldsWrong)

/-- 'facetlaw21.NttLaws': WHATEVER THE INPUT: true; the input reads as it did. -/
def nttLawsSpec : ChangeSpec := { name := "nttLaws", fn := fun _ => fun
  | [d1, d2, d3] => { results := [.lit (.bool true)], args := [d1, d2, d3] }
  | _ => none }
def nttLawsRow : OpenClaim := { program := "ytjmhnmlmnlefaaa", sum := "de7af54928e8a9ab030d693be9f4e87a1bb42c13414a521733b0cea3bb4882dd", func := "facet/facetlaw21.NttLaws", spec := "nttLaws", inPlace := ["math/bits.Add64"], unfollowed := true, recurses := true, named := ["math/bits.divideError", "math/bits.overflowError"], apart := false }
def NttLawsSaid : Prop := nttLawsRow.holds Try.pinned (OpenSpec.ofChange nttLawsSpec)

/-- ITS FALSE NEIGHBOUR: 'it returns false'. Refute it at one input. -/
def nttLawsWrong : ChangeSpec := { name := "nttLaws", fn := fun _ => fun
  | [d1, d2, d3] => { results := [.lit (.bool false)], args := [d1, d2, d3] }
  | _ => none }
def NttLawsWrongFalsely : Prop := nttLawsRow.holds Try.pinned (OpenSpec.ofChange nttLawsWrong)

/-- 'facetlaw21.NttProducts': WHATEVER THE INPUT: true; the input reads as it did. -/
def nttProductsSpec : ChangeSpec := { name := "nttProducts", fn := fun _ => fun
  | [d1, d2] => { results := [.lit (.bool true)], args := [d1, d2] }
  | _ => none }
def nttProductsRow : OpenClaim := { program := "ytjmhnmlmnlefaaa", sum := "de7af54928e8a9ab030d693be9f4e87a1bb42c13414a521733b0cea3bb4882dd", func := "facet/facetlaw21.NttProducts", spec := "nttProducts", inPlace := ["math/bits.Add64"], unfollowed := true, recurses := true, named := ["math/bits.divideError", "math/bits.overflowError"], apart := false }
def NttProductsSaid : Prop := nttProductsRow.holds Try.pinned (OpenSpec.ofChange nttProductsSpec)

/-- ITS FALSE NEIGHBOUR: 'it returns false'. Refute it at one input. -/
def nttProductsWrong : ChangeSpec := { name := "nttProducts", fn := fun _ => fun
  | [d1, d2] => { results := [.lit (.bool false)], args := [d1, d2] }
  | _ => none }
def NttProductsWrongFalsely : Prop := nttProductsRow.holds Try.pinned (OpenSpec.ofChange nttProductsWrong)

/-- 'facetlaw21.NttRoots': WHATEVER THE INPUT: true; the input reads as it did. -/
def nttRootsSpec : ChangeSpec := { name := "nttRoots", fn := fun _ => fun
  | [d] => { results := [.lit (.bool true)], args := [d] }
  | _ => none }
def nttRootsRow : OpenClaim := { program := "ytjmhnmlmnlefaaa", sum := "de7af54928e8a9ab030d693be9f4e87a1bb42c13414a521733b0cea3bb4882dd", func := "facet/facetlaw21.NttRoots", spec := "nttRoots", inPlace := ["math/bits.Add64"], unfollowed := true, recurses := true, named := ["math/bits.divideError", "math/bits.overflowError"], apart := false }
def NttRootsSaid : Prop := nttRootsRow.holds Try.pinned (OpenSpec.ofChange nttRootsSpec)

/-- ITS FALSE NEIGHBOUR: 'it returns false'. Refute it at one input. -/
def nttRootsWrong : ChangeSpec := { name := "nttRoots", fn := fun _ => fun
  | [d] => { results := [.lit (.bool false)], args := [d] }
  | _ => none }
def NttRootsWrongFalsely : Prop := nttRootsRow.holds Try.pinned (OpenSpec.ofChange nttRootsWrong)

/-- 'facetlaw21.NttLines': WHATEVER THE INPUT: true; the input reads as it did. -/
def nttLinesSpec : ChangeSpec := { name := "nttLines", fn := fun _ => fun
  | [d] => { results := [.lit (.bool true)], args := [d] }
  | _ => none }
def nttLinesRow : OpenClaim := { program := "ytjmhnmlmnlefaaa", sum := "de7af54928e8a9ab030d693be9f4e87a1bb42c13414a521733b0cea3bb4882dd", func := "facet/facetlaw21.NttLines", spec := "nttLines", inPlace := ["math/bits.Add64"], unfollowed := true, recurses := true, named := ["math/bits.divideError", "math/bits.overflowError"], apart := false }
def NttLinesSaid : Prop := nttLinesRow.holds Try.pinned (OpenSpec.ofChange nttLinesSpec)

/-- ITS FALSE NEIGHBOUR: 'it returns false'. Refute it at one input. -/
def nttLinesWrong : ChangeSpec := { name := "nttLines", fn := fun _ => fun
  | [d] => { results := [.lit (.bool false)], args := [d] }
  | _ => none }
def NttLinesWrongFalsely : Prop := nttLinesRow.holds Try.pinned (OpenSpec.ofChange nttLinesWrong)

/-- 'facetlaw21.NttThere': WHATEVER THE INPUT: true; the input reads as it did. -/
def nttThereSpec : ChangeSpec := { name := "nttThere", fn := fun _ => fun
  | [d] => { results := [.lit (.bool true)], args := [d] }
  | _ => none }
def nttThereRow : OpenClaim := { program := "ytjmhnmlmnlefaaa", sum := "de7af54928e8a9ab030d693be9f4e87a1bb42c13414a521733b0cea3bb4882dd", func := "facet/facetlaw21.NttThere", spec := "nttThere", inPlace := ["math/bits.Add64"], unfollowed := true, recurses := true, named := ["math/bits.divideError", "math/bits.overflowError"], apart := false }
def NttThereSaid : Prop := nttThereRow.holds Try.pinned (OpenSpec.ofChange nttThereSpec)

/-- ITS FALSE NEIGHBOUR: 'it returns false'. Refute it at one input. -/
def nttThereWrong : ChangeSpec := { name := "nttThere", fn := fun _ => fun
  | [d] => { results := [.lit (.bool false)], args := [d] }
  | _ => none }
def NttThereWrongFalsely : Prop := nttThereRow.holds Try.pinned (OpenSpec.ofChange nttThereWrong)

/-- 'facetlaw21.NttShifts': WHATEVER THE INPUT: true; the input reads as it did. -/
def nttShiftsSpec : ChangeSpec := { name := "nttShifts", fn := fun _ => fun
  | [d1, d2] => { results := [.lit (.bool true)], args := [d1, d2] }
  | _ => none }
def nttShiftsRow : OpenClaim := { program := "ytjmhnmlmnlefaaa", sum := "de7af54928e8a9ab030d693be9f4e87a1bb42c13414a521733b0cea3bb4882dd", func := "facet/facetlaw21.NttShifts", spec := "nttShifts", inPlace := ["math/bits.Add64"], unfollowed := true, recurses := true, named := ["math/bits.divideError", "math/bits.overflowError"], apart := false }
def NttShiftsSaid : Prop := nttShiftsRow.holds Try.pinned (OpenSpec.ofChange nttShiftsSpec)

/-- ITS FALSE NEIGHBOUR: 'it returns false'. Refute it at one input. -/
def nttShiftsWrong : ChangeSpec := { name := "nttShifts", fn := fun _ => fun
  | [d1, d2] => { results := [.lit (.bool false)], args := [d1, d2] }
  | _ => none }
def NttShiftsWrongFalsely : Prop := nttShiftsRow.holds Try.pinned (OpenSpec.ofChange nttShiftsWrong)

/-- 'facetlaw21.NttMemory': WHATEVER THE INPUT: true; the input reads as it did. -/
def nttMemorySpec : ChangeSpec := { name := "nttMemory", fn := fun _ => fun
  | [d1, d2] => { results := [.lit (.bool true)], args := [d1, d2] }
  | _ => none }
def nttMemoryRow : OpenClaim := { program := "ytjmhnmlmnlefaaa", sum := "de7af54928e8a9ab030d693be9f4e87a1bb42c13414a521733b0cea3bb4882dd", func := "facet/facetlaw21.NttMemory", spec := "nttMemory", inPlace := ["math/bits.Add64"], unfollowed := true, recurses := true, named := ["math/bits.divideError", "math/bits.overflowError"], apart := false }
def NttMemorySaid : Prop := nttMemoryRow.holds Try.pinned (OpenSpec.ofChange nttMemorySpec)

/-- ITS FALSE NEIGHBOUR: 'it returns false'. Refute it at one input. -/
def nttMemoryWrong : ChangeSpec := { name := "nttMemory", fn := fun _ => fun
  | [d1, d2] => { results := [.lit (.bool false)], args := [d1, d2] }
  | _ => none }
def NttMemoryWrongFalsely : Prop := nttMemoryRow.holds Try.pinned (OpenSpec.ofChange nttMemoryWrong)

/-- 'facetlaw21.NttFixed': WHATEVER THE INPUT: true; the input reads as it did. -/
def nttFixedSpec : ChangeSpec := { name := "nttFixed", fn := fun _ => fun
  | [] => { results := [.lit (.bool true)], args := [] }
  | _ => none }
def nttFixedRow : OpenClaim := { program := "ytjmhnmlmnlefaaa", sum := "de7af54928e8a9ab030d693be9f4e87a1bb42c13414a521733b0cea3bb4882dd", func := "facet/facetlaw21.NttFixed", spec := "nttFixed", inPlace := ["math/bits.Add64"], unfollowed := true, recurses := true, named := ["math/bits.divideError", "math/bits.overflowError"], apart := false }
def NttFixedSaid : Prop := nttFixedRow.holds Try.pinned (OpenSpec.ofChange nttFixedSpec)

/-- ITS FALSE NEIGHBOUR: 'it returns false'. Refute it at one input. -/
def nttFixedWrong : ChangeSpec := { name := "nttFixed", fn := fun _ => fun
  | [] => { results := [.lit (.bool false)], args := [] }
  | _ => none }
def NttFixedWrongFalsely : Prop := nttFixedRow.holds Try.pinned (OpenSpec.ofChange nttFixedWrong)

/-- 'facettop.WholeExactTransforms': WHATEVER THE INPUT: true; the input reads as it did. -/
def wholeExactTransformsSpec : ChangeSpec := { name := "wholeExactTransforms", fn := fun _ => fun
  | [d1, d2, d3, d4, d5] => { results := [.lit (.bool true)], args := [d1, d2, d3, d4, d5] }
  | _ => none }
def wholeExactTransformsRow : OpenClaim := { program := "ytjmhnmlmnlefaaa", sum := "de7af54928e8a9ab030d693be9f4e87a1bb42c13414a521733b0cea3bb4882dd", func := "facet/facettop.WholeExactTransforms", spec := "wholeExactTransforms", inPlace := ["math/bits.Add64"], unfollowed := true, recurses := true, named := ["math/bits.divideError", "math/bits.overflowError"], apart := false }
def WholeExactTransformsSaid : Prop := wholeExactTransformsRow.holds Try.pinned (OpenSpec.ofChange wholeExactTransformsSpec)

/-- ITS FALSE NEIGHBOUR: 'it returns false'. Refute it at one input. -/
def wholeExactTransformsWrong : ChangeSpec := { name := "wholeExactTransforms", fn := fun _ => fun
  | [d1, d2, d3, d4, d5] => { results := [.lit (.bool false)], args := [d1, d2, d3, d4, d5] }
  | _ => none }
def WholeExactTransformsWrongFalsely : Prop := wholeExactTransformsRow.holds Try.pinned (OpenSpec.ofChange wholeExactTransformsWrong)

/- THE SECOND FORM. 'bulk': how many values and letters a reading holds, each counted each time it is reached (what is shared counts as often as it is met; a slice's spare places count too). A statement '..UptoSaid' is the law's where the arguments, and the package variables that the reading takes, are together of bulk at most 1048576: NARROWER than '..Said'. Prove '..Said' where nothing that the law and all that it calls make is longer than what came in: it says more and counts as full. Else prove '..UptoSaid'. A law counts once. -/
mutual
def uptoBulk {H : Type} : DataW H → Nat
  | .lit (.string bytes) => bytes.length + 1
  | .lit _ => 1
  | .nil => 1
  | .ptr d => uptoBulk d + 1
  | .slice elems spare => uptoBulkAll elems + uptoBulkAll spare + 1
  | .agg parts => uptoBulkAll parts + 1
  | .iface _ d => uptoBulk d + 1
  | .map entries => uptoBulkEntries entries + 1
  | .held _ => 1
def uptoBulkAll {H : Type} : List (DataW H) → Nat
  | [] => 0
  | d :: r => uptoBulk d + uptoBulkAll r
def uptoBulkEntries {H : Type} : List (Lit × DataW H) → Nat
  | [] => 0
  | x :: r => uptoBulkEntry x + uptoBulkEntries r
def uptoBulkEntry {H : Type} : Lit × DataW H → Nat
  | (.string bytes, d) => bytes.length + uptoBulk d + 1
  | (_, d) => uptoBulk d + 1
 end
def uptoSmall : (H : Type) → List (DataW H) → Bool := fun _ ds => decide (uptoBulkAll ds ≤ 1048576)
def OpenSpec.upto (s : _root_.Go.ChangeSpec) : _root_.Go.OpenSpec := { _root_.Go.OpenSpec.ofChange s with cond := some uptoSmall }

/-- 'facetlaw21.NttFolds', WHERE WHAT IT READS IS OF BULK AT MOST 1048576: true; the input reads as it did. -/
def nttFoldsUptoRow : OpenClaim := { program := "ytjmhnmlmnlefaaa", sum := "de7af54928e8a9ab030d693be9f4e87a1bb42c13414a521733b0cea3bb4882dd", func := "facet/facetlaw21.NttFolds", spec := "nttFolds", inPlace := ["math/bits.Add64"], unfollowed := true, recurses := true, named := ["math/bits.divideError", "math/bits.overflowError"], apart := false, narrowed := true }
def NttFoldsUptoSaid : Prop := nttFoldsUptoRow.holds Try.pinned (OpenSpec.upto nttFoldsSpec)

/-- 'facetlaw21.NttLaws', WHERE WHAT IT READS IS OF BULK AT MOST 1048576: true; the input reads as it did. -/
def nttLawsUptoRow : OpenClaim := { program := "ytjmhnmlmnlefaaa", sum := "de7af54928e8a9ab030d693be9f4e87a1bb42c13414a521733b0cea3bb4882dd", func := "facet/facetlaw21.NttLaws", spec := "nttLaws", inPlace := ["math/bits.Add64"], unfollowed := true, recurses := true, named := ["math/bits.divideError", "math/bits.overflowError"], apart := false, narrowed := true }
def NttLawsUptoSaid : Prop := nttLawsUptoRow.holds Try.pinned (OpenSpec.upto nttLawsSpec)

/-- 'facetlaw21.NttProducts', WHERE WHAT IT READS IS OF BULK AT MOST 1048576: true; the input reads as it did. -/
def nttProductsUptoRow : OpenClaim := { program := "ytjmhnmlmnlefaaa", sum := "de7af54928e8a9ab030d693be9f4e87a1bb42c13414a521733b0cea3bb4882dd", func := "facet/facetlaw21.NttProducts", spec := "nttProducts", inPlace := ["math/bits.Add64"], unfollowed := true, recurses := true, named := ["math/bits.divideError", "math/bits.overflowError"], apart := false, narrowed := true }
def NttProductsUptoSaid : Prop := nttProductsUptoRow.holds Try.pinned (OpenSpec.upto nttProductsSpec)

/-- 'facetlaw21.NttRoots', WHERE WHAT IT READS IS OF BULK AT MOST 1048576: true; the input reads as it did. -/
def nttRootsUptoRow : OpenClaim := { program := "ytjmhnmlmnlefaaa", sum := "de7af54928e8a9ab030d693be9f4e87a1bb42c13414a521733b0cea3bb4882dd", func := "facet/facetlaw21.NttRoots", spec := "nttRoots", inPlace := ["math/bits.Add64"], unfollowed := true, recurses := true, named := ["math/bits.divideError", "math/bits.overflowError"], apart := false, narrowed := true }
def NttRootsUptoSaid : Prop := nttRootsUptoRow.holds Try.pinned (OpenSpec.upto nttRootsSpec)

/-- 'facetlaw21.NttLines', WHERE WHAT IT READS IS OF BULK AT MOST 1048576: true; the input reads as it did. -/
def nttLinesUptoRow : OpenClaim := { program := "ytjmhnmlmnlefaaa", sum := "de7af54928e8a9ab030d693be9f4e87a1bb42c13414a521733b0cea3bb4882dd", func := "facet/facetlaw21.NttLines", spec := "nttLines", inPlace := ["math/bits.Add64"], unfollowed := true, recurses := true, named := ["math/bits.divideError", "math/bits.overflowError"], apart := false, narrowed := true }
def NttLinesUptoSaid : Prop := nttLinesUptoRow.holds Try.pinned (OpenSpec.upto nttLinesSpec)

/-- 'facetlaw21.NttThere', WHERE WHAT IT READS IS OF BULK AT MOST 1048576: true; the input reads as it did. -/
def nttThereUptoRow : OpenClaim := { program := "ytjmhnmlmnlefaaa", sum := "de7af54928e8a9ab030d693be9f4e87a1bb42c13414a521733b0cea3bb4882dd", func := "facet/facetlaw21.NttThere", spec := "nttThere", inPlace := ["math/bits.Add64"], unfollowed := true, recurses := true, named := ["math/bits.divideError", "math/bits.overflowError"], apart := false, narrowed := true }
def NttThereUptoSaid : Prop := nttThereUptoRow.holds Try.pinned (OpenSpec.upto nttThereSpec)

/-- 'facetlaw21.NttShifts', WHERE WHAT IT READS IS OF BULK AT MOST 1048576: true; the input reads as it did. -/
def nttShiftsUptoRow : OpenClaim := { program := "ytjmhnmlmnlefaaa", sum := "de7af54928e8a9ab030d693be9f4e87a1bb42c13414a521733b0cea3bb4882dd", func := "facet/facetlaw21.NttShifts", spec := "nttShifts", inPlace := ["math/bits.Add64"], unfollowed := true, recurses := true, named := ["math/bits.divideError", "math/bits.overflowError"], apart := false, narrowed := true }
def NttShiftsUptoSaid : Prop := nttShiftsUptoRow.holds Try.pinned (OpenSpec.upto nttShiftsSpec)

/-- 'facetlaw21.NttMemory', WHERE WHAT IT READS IS OF BULK AT MOST 1048576: true; the input reads as it did. -/
def nttMemoryUptoRow : OpenClaim := { program := "ytjmhnmlmnlefaaa", sum := "de7af54928e8a9ab030d693be9f4e87a1bb42c13414a521733b0cea3bb4882dd", func := "facet/facetlaw21.NttMemory", spec := "nttMemory", inPlace := ["math/bits.Add64"], unfollowed := true, recurses := true, named := ["math/bits.divideError", "math/bits.overflowError"], apart := false, narrowed := true }
def NttMemoryUptoSaid : Prop := nttMemoryUptoRow.holds Try.pinned (OpenSpec.upto nttMemorySpec)

/-- 'facetlaw21.NttFixed', WHERE WHAT IT READS IS OF BULK AT MOST 1048576: true; the input reads as it did. -/
def nttFixedUptoRow : OpenClaim := { program := "ytjmhnmlmnlefaaa", sum := "de7af54928e8a9ab030d693be9f4e87a1bb42c13414a521733b0cea3bb4882dd", func := "facet/facetlaw21.NttFixed", spec := "nttFixed", inPlace := ["math/bits.Add64"], unfollowed := true, recurses := true, named := ["math/bits.divideError", "math/bits.overflowError"], apart := false, narrowed := true }
def NttFixedUptoSaid : Prop := nttFixedUptoRow.holds Try.pinned (OpenSpec.upto nttFixedSpec)

/-- 'facettop.WholeExactTransforms', WHERE WHAT IT READS IS OF BULK AT MOST 1048576: true; the input reads as it did. -/
def wholeExactTransformsUptoRow : OpenClaim := { program := "ytjmhnmlmnlefaaa", sum := "de7af54928e8a9ab030d693be9f4e87a1bb42c13414a521733b0cea3bb4882dd", func := "facet/facettop.WholeExactTransforms", spec := "wholeExactTransforms", inPlace := ["math/bits.Add64"], unfollowed := true, recurses := true, named := ["math/bits.divideError", "math/bits.overflowError"], apart := false, narrowed := true }
def WholeExactTransformsUptoSaid : Prop := wholeExactTransformsUptoRow.holds Try.pinned (OpenSpec.upto wholeExactTransformsSpec)

end Rows
end Go.Proofs.Ytjmhnmlmnlefaaa
