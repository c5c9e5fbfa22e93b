/-
  No cell of these rows narrows 'for every input' (looked for: loops, veiled, ifaces, maps, wideKeys, modest, calm, conditions, laid).
  DERIVED. THE GIVEN ROWS OF THIS SEAT. 9 by the template 'for every input the law returns true; each argument reads behind the call as it read before'; 0 by the template 'total and deterministic' (their statements: YtiloleochmdfoaaTotals.lean).
  GIVEN WITH THE SEED: the statements are not yours to turn. If you find one false, say at which input.
  Laid BY PROGRAM, IN A SANDBOX (cutbox-rows.mjs): the forced cells as the released guide's own fill.sh prints them over the translation aa0152f3bada69c5… (all of the seat's roots in one cut). By AI agents, Wed Nov 11 2026. No macro, syntax, notation, axiom, sorry.
-/
import Derived.Test.YtiloleochmdfoaaChecked
import GoSem.Claim
import GoSem.ClaimJoined
import GoSem.ClaimMapViews
import Derived.JoinedTies
import Derived.KernelRfl
namespace Go.Proofs.Ytiloleochmdfoaa
/- THE CELL 'sum', in the pinned program and in every row, IS THE sha256 OF THE DUMP (.gsa) THAT YtiloleochmdfoaaProg.lean LOADS. Nothing in Lean hashes anything: it is a label: what it is worth is what the hold of that sum in a sandbox is worth. -/
noncomputable def Try.pinned : Pinned := { name := "ytiloleochmdfoaa", sum := "aa0152f3bada69c54a87efebf75183f7017e8516265e4fa118444b13cd5256a7", checked := Try.checked }
namespace Rows
def none {H : Type} : Left H := { results := [], args := [] }

/-- 'facetlaw16.CplxQuarters': WHATEVER THE INPUT: true; the input reads as it did. -/
def cplxQuartersSpec : ChangeSpec := { name := "cplxQuarters", fn := fun _ => fun
  | [d1, d2] => { results := [.lit (.bool true)], args := [d1, d2] }
  | _ => none }
def cplxQuartersRow : OpenClaim := { program := "ytiloleochmdfoaa", sum := "aa0152f3bada69c54a87efebf75183f7017e8516265e4fa118444b13cd5256a7", func := "facet/facetlaw16.CplxQuarters", spec := "cplxQuarters", inPlace := ["math.Float64bits", "math.Float64frombits", "math.sqrt"], apart := false }
def CplxQuartersSaid : Prop := cplxQuartersRow.holds Try.pinned (OpenSpec.ofChange cplxQuartersSpec)

/-- ITS FALSE NEIGHBOUR: 'it returns false'. Refute it at one input. -/
def cplxQuartersWrong : ChangeSpec := { name := "cplxQuarters", fn := fun _ => fun
  | [d1, d2] => { results := [.lit (.bool false)], args := [d1, d2] }
  | _ => none }
def CplxQuartersWrongFalsely : Prop := cplxQuartersRow.holds Try.pinned (OpenSpec.ofChange cplxQuartersWrong)

/-- 'facettop.WholeParts': WHATEVER THE INPUT: true; the input reads as it did. -/
def wholePartsSpec : ChangeSpec := { name := "wholeParts", fn := fun _ => fun
  | [d1, d2, d3, d4] => { results := [.lit (.bool true)], args := [d1, d2, d3, d4] }
  | _ => none }
def wholePartsRow : OpenClaim := { program := "ytiloleochmdfoaa", sum := "aa0152f3bada69c54a87efebf75183f7017e8516265e4fa118444b13cd5256a7", func := "facet/facettop.WholeParts", spec := "wholeParts", inPlace := ["math.Float64frombits", "math.Float64bits", "math.sqrt"], apart := false }
def WholePartsSaid : Prop := wholePartsRow.holds Try.pinned (OpenSpec.ofChange wholePartsSpec)

/-- ITS FALSE NEIGHBOUR: 'it returns false'. Refute it at one input. -/
def wholePartsWrong : ChangeSpec := { name := "wholeParts", fn := fun _ => fun
  | [d1, d2, d3, d4] => { results := [.lit (.bool false)], args := [d1, d2, d3, d4] }
  | _ => none }
def WholePartsWrongFalsely : Prop := wholePartsRow.holds Try.pinned (OpenSpec.ofChange wholePartsWrong)

/-- 'facetlaw16.CplxMemory': WHATEVER THE INPUT: true; the input reads as it did. -/
def cplxMemorySpec : ChangeSpec := { name := "cplxMemory", fn := fun _ => fun
  | [d] => { results := [.lit (.bool true)], args := [d] }
  | _ => none }
def cplxMemoryRow : OpenClaim := { program := "ytiloleochmdfoaa", sum := "aa0152f3bada69c54a87efebf75183f7017e8516265e4fa118444b13cd5256a7", func := "facet/facetlaw16.CplxMemory", spec := "cplxMemory", inPlace := ["math.Float64bits", "math.Float64frombits", "math.sqrt"], apart := false }
def CplxMemorySaid : Prop := cplxMemoryRow.holds Try.pinned (OpenSpec.ofChange cplxMemorySpec)

/-- ITS FALSE NEIGHBOUR: 'it returns false'. Refute it at one input. -/
def cplxMemoryWrong : ChangeSpec := { name := "cplxMemory", fn := fun _ => fun
  | [d] => { results := [.lit (.bool false)], args := [d] }
  | _ => none }
def CplxMemoryWrongFalsely : Prop := cplxMemoryRow.holds Try.pinned (OpenSpec.ofChange cplxMemoryWrong)

/-- 'facetlaw16.CplxTwos': WHATEVER THE INPUT: true; the input reads as it did. -/
def cplxTwosSpec : ChangeSpec := { name := "cplxTwos", fn := fun _ => fun
  | [d1, d2] => { results := [.lit (.bool true)], args := [d1, d2] }
  | _ => none }
def cplxTwosRow : OpenClaim := { program := "ytiloleochmdfoaa", sum := "aa0152f3bada69c54a87efebf75183f7017e8516265e4fa118444b13cd5256a7", func := "facet/facetlaw16.CplxTwos", spec := "cplxTwos", inPlace := ["math.Float64bits", "math.Float64frombits", "math.sqrt"], apart := false }
def CplxTwosSaid : Prop := cplxTwosRow.holds Try.pinned (OpenSpec.ofChange cplxTwosSpec)

/-- ITS FALSE NEIGHBOUR: 'it returns false'. Refute it at one input. -/
def cplxTwosWrong : ChangeSpec := { name := "cplxTwos", fn := fun _ => fun
  | [d1, d2] => { results := [.lit (.bool false)], args := [d1, d2] }
  | _ => none }
def CplxTwosWrongFalsely : Prop := cplxTwosRow.holds Try.pinned (OpenSpec.ofChange cplxTwosWrong)

/-- 'facetlaw16.CplxSums': WHATEVER THE INPUT: true; the input reads as it did. -/
def cplxSumsSpec : ChangeSpec := { name := "cplxSums", fn := fun _ => fun
  | [d1, d2] => { results := [.lit (.bool true)], args := [d1, d2] }
  | _ => none }
def cplxSumsRow : OpenClaim := { program := "ytiloleochmdfoaa", sum := "aa0152f3bada69c54a87efebf75183f7017e8516265e4fa118444b13cd5256a7", func := "facet/facetlaw16.CplxSums", spec := "cplxSums", inPlace := ["math.Float64bits", "math.Float64frombits", "math.sqrt"], apart := false }
def CplxSumsSaid : Prop := cplxSumsRow.holds Try.pinned (OpenSpec.ofChange cplxSumsSpec)

/-- ITS FALSE NEIGHBOUR: 'it returns false'. Refute it at one input. -/
def cplxSumsWrong : ChangeSpec := { name := "cplxSums", fn := fun _ => fun
  | [d1, d2] => { results := [.lit (.bool false)], args := [d1, d2] }
  | _ => none }
def CplxSumsWrongFalsely : Prop := cplxSumsRow.holds Try.pinned (OpenSpec.ofChange cplxSumsWrong)

/-- 'facetlaw16.CplxMirrors': WHATEVER THE INPUT: true; the input reads as it did. -/
def cplxMirrorsSpec : ChangeSpec := { name := "cplxMirrors", fn := fun _ => fun
  | [d1, d2, d3] => { results := [.lit (.bool true)], args := [d1, d2, d3] }
  | _ => none }
def cplxMirrorsRow : OpenClaim := { program := "ytiloleochmdfoaa", sum := "aa0152f3bada69c54a87efebf75183f7017e8516265e4fa118444b13cd5256a7", func := "facet/facetlaw16.CplxMirrors", spec := "cplxMirrors", inPlace := ["math.Float64bits", "math.Float64frombits", "math.sqrt"], apart := false }
def CplxMirrorsSaid : Prop := cplxMirrorsRow.holds Try.pinned (OpenSpec.ofChange cplxMirrorsSpec)

/-- ITS FALSE NEIGHBOUR: 'it returns false'. Refute it at one input. -/
def cplxMirrorsWrong : ChangeSpec := { name := "cplxMirrors", fn := fun _ => fun
  | [d1, d2, d3] => { results := [.lit (.bool false)], args := [d1, d2, d3] }
  | _ => none }
def CplxMirrorsWrongFalsely : Prop := cplxMirrorsRow.holds Try.pinned (OpenSpec.ofChange cplxMirrorsWrong)

/-- 'facetlaw16.CplxOnes': WHATEVER THE INPUT: true; the input reads as it did. -/
def cplxOnesSpec : ChangeSpec := { name := "cplxOnes", fn := fun _ => fun
  | [d1, d2] => { results := [.lit (.bool true)], args := [d1, d2] }
  | _ => none }
def cplxOnesRow : OpenClaim := { program := "ytiloleochmdfoaa", sum := "aa0152f3bada69c54a87efebf75183f7017e8516265e4fa118444b13cd5256a7", func := "facet/facetlaw16.CplxOnes", spec := "cplxOnes", inPlace := ["math.Float64bits", "math.Float64frombits", "math.sqrt", "math.Float32frombits", "math.Float32bits"], apart := false }
def CplxOnesSaid : Prop := cplxOnesRow.holds Try.pinned (OpenSpec.ofChange cplxOnesSpec)

/-- ITS FALSE NEIGHBOUR: 'it returns false'. Refute it at one input. -/
def cplxOnesWrong : ChangeSpec := { name := "cplxOnes", fn := fun _ => fun
  | [d1, d2] => { results := [.lit (.bool false)], args := [d1, d2] }
  | _ => none }
def CplxOnesWrongFalsely : Prop := cplxOnesRow.holds Try.pinned (OpenSpec.ofChange cplxOnesWrong)

/-- 'facetlaw16.CplxUnits': WHATEVER THE INPUT: true; the input reads as it did. -/
def cplxUnitsSpec : ChangeSpec := { name := "cplxUnits", fn := fun _ => fun
  | [d1, d2] => { results := [.lit (.bool true)], args := [d1, d2] }
  | _ => none }
def cplxUnitsRow : OpenClaim := { program := "ytiloleochmdfoaa", sum := "aa0152f3bada69c54a87efebf75183f7017e8516265e4fa118444b13cd5256a7", func := "facet/facetlaw16.CplxUnits", spec := "cplxUnits", inPlace := ["math.Float64bits", "math.Float64frombits", "math.sqrt"], apart := false }
def CplxUnitsSaid : Prop := cplxUnitsRow.holds Try.pinned (OpenSpec.ofChange cplxUnitsSpec)

/-- ITS FALSE NEIGHBOUR: 'it returns false'. Refute it at one input. -/
def cplxUnitsWrong : ChangeSpec := { name := "cplxUnits", fn := fun _ => fun
  | [d1, d2] => { results := [.lit (.bool false)], args := [d1, d2] }
  | _ => none }
def CplxUnitsWrongFalsely : Prop := cplxUnitsRow.holds Try.pinned (OpenSpec.ofChange cplxUnitsWrong)

/-- 'facetlaw16.CplxFixed': WHATEVER THE INPUT: true; the input reads as it did. -/
def cplxFixedSpec : ChangeSpec := { name := "cplxFixed", fn := fun _ => fun
  | [] => { results := [.lit (.bool true)], args := [] }
  | _ => none }
def cplxFixedRow : OpenClaim := { program := "ytiloleochmdfoaa", sum := "aa0152f3bada69c54a87efebf75183f7017e8516265e4fa118444b13cd5256a7", func := "facet/facetlaw16.CplxFixed", spec := "cplxFixed", inPlace := ["math.Float64bits", "math.Float64frombits", "math.sqrt", "math.Float32bits"], apart := false }
def CplxFixedSaid : Prop := cplxFixedRow.holds Try.pinned (OpenSpec.ofChange cplxFixedSpec)

/-- ITS FALSE NEIGHBOUR: 'it returns false'. Refute it at one input. -/
def cplxFixedWrong : ChangeSpec := { name := "cplxFixed", fn := fun _ => fun
  | [] => { results := [.lit (.bool false)], args := [] }
  | _ => none }
def CplxFixedWrongFalsely : Prop := cplxFixedRow.holds Try.pinned (OpenSpec.ofChange cplxFixedWrong)

/- THE SECOND FORM. 'bulk': how many values and letters a reading holds, each counted each time it is reached (what is shared counts as often as it is met; a slice's spare places count too). A statement '..UptoSaid' is the law's where the arguments, and the package variables that the reading takes, are together of bulk at most 1048576: NARROWER than '..Said'. Prove '..Said' where nothing that the law and all that it calls make is longer than what came in: it says more and counts as full. Else prove '..UptoSaid'. A law counts once. -/
mutual
def uptoBulk {H : Type} : DataW H → Nat
  | .lit (.string bytes) => bytes.length + 1
  | .lit _ => 1
  | .nil => 1
  | .ptr d => uptoBulk d + 1
  | .slice elems spare => uptoBulkAll elems + uptoBulkAll spare + 1
  | .agg parts => uptoBulkAll parts + 1
  | .iface _ d => uptoBulk d + 1
  | .map entries => uptoBulkEntries entries + 1
  | .held _ => 1
def uptoBulkAll {H : Type} : List (DataW H) → Nat
  | [] => 0
  | d :: r => uptoBulk d + uptoBulkAll r
def uptoBulkEntries {H : Type} : List (Lit × DataW H) → Nat
  | [] => 0
  | x :: r => uptoBulkEntry x + uptoBulkEntries r
def uptoBulkEntry {H : Type} : Lit × DataW H → Nat
  | (.string bytes, d) => bytes.length + uptoBulk d + 1
  | (_, d) => uptoBulk d + 1
 end
def uptoSmall : (H : Type) → List (DataW H) → Bool := fun _ ds => decide (uptoBulkAll ds ≤ 1048576)
def OpenSpec.upto (s : _root_.Go.ChangeSpec) : _root_.Go.OpenSpec := { _root_.Go.OpenSpec.ofChange s with cond := some uptoSmall }

/-- 'facetlaw16.CplxQuarters', WHERE WHAT IT READS IS OF BULK AT MOST 1048576: true; the input reads as it did. -/
def cplxQuartersUptoRow : OpenClaim := { program := "ytiloleochmdfoaa", sum := "aa0152f3bada69c54a87efebf75183f7017e8516265e4fa118444b13cd5256a7", func := "facet/facetlaw16.CplxQuarters", spec := "cplxQuarters", inPlace := ["math.Float64bits", "math.Float64frombits", "math.sqrt"], apart := false, narrowed := true }
def CplxQuartersUptoSaid : Prop := cplxQuartersUptoRow.holds Try.pinned (OpenSpec.upto cplxQuartersSpec)

/-- 'facettop.WholeParts', WHERE WHAT IT READS IS OF BULK AT MOST 1048576: true; the input reads as it did. -/
def wholePartsUptoRow : OpenClaim := { program := "ytiloleochmdfoaa", sum := "aa0152f3bada69c54a87efebf75183f7017e8516265e4fa118444b13cd5256a7", func := "facet/facettop.WholeParts", spec := "wholeParts", inPlace := ["math.Float64frombits", "math.Float64bits", "math.sqrt"], apart := false, narrowed := true }
def WholePartsUptoSaid : Prop := wholePartsUptoRow.holds Try.pinned (OpenSpec.upto wholePartsSpec)

/-- 'facetlaw16.CplxMemory', WHERE WHAT IT READS IS OF BULK AT MOST 1048576: true; the input reads as it did. -/
def cplxMemoryUptoRow : OpenClaim := { program := "ytiloleochmdfoaa", sum := "aa0152f3bada69c54a87efebf75183f7017e8516265e4fa118444b13cd5256a7", func := "facet/facetlaw16.CplxMemory", spec := "cplxMemory", inPlace := ["math.Float64bits", "math.Float64frombits", "math.sqrt"], apart := false, narrowed := true }
def CplxMemoryUptoSaid : Prop := cplxMemoryUptoRow.holds Try.pinned (OpenSpec.upto cplxMemorySpec)

/-- 'facetlaw16.CplxTwos', WHERE WHAT IT READS IS OF BULK AT MOST 1048576: true; the input reads as it did. -/
def cplxTwosUptoRow : OpenClaim := { program := "ytiloleochmdfoaa", sum := "aa0152f3bada69c54a87efebf75183f7017e8516265e4fa118444b13cd5256a7", func := "facet/facetlaw16.CplxTwos", spec := "cplxTwos", inPlace := ["math.Float64bits", "math.Float64frombits", "math.sqrt"], apart := false, narrowed := true }
def CplxTwosUptoSaid : Prop := cplxTwosUptoRow.holds Try.pinned (OpenSpec.upto cplxTwosSpec)

/-- 'facetlaw16.CplxSums', WHERE WHAT IT READS IS OF BULK AT MOST 1048576: true; the input reads as it did. -/
def cplxSumsUptoRow : OpenClaim := { program := "ytiloleochmdfoaa", sum := "aa0152f3bada69c54a87efebf75183f7017e8516265e4fa118444b13cd5256a7", func := "facet/facetlaw16.CplxSums", spec := "cplxSums", inPlace := ["math.Float64bits", "math.Float64frombits", "math.sqrt"], apart := false, narrowed := true }
def CplxSumsUptoSaid : Prop := cplxSumsUptoRow.holds Try.pinned (OpenSpec.upto cplxSumsSpec)

/-- 'facetlaw16.CplxMirrors', WHERE WHAT IT READS IS OF BULK AT MOST 1048576: true; the input reads as it did. -/
def cplxMirrorsUptoRow : OpenClaim := { program := "ytiloleochmdfoaa", sum := "aa0152f3bada69c54a87efebf75183f7017e8516265e4fa118444b13cd5256a7", func := "facet/facetlaw16.CplxMirrors", spec := "cplxMirrors", inPlace := ["math.Float64bits", "math.Float64frombits", "math.sqrt"], apart := false, narrowed := true }
def CplxMirrorsUptoSaid : Prop := cplxMirrorsUptoRow.holds Try.pinned (OpenSpec.upto cplxMirrorsSpec)

/-- 'facetlaw16.CplxOnes', WHERE WHAT IT READS IS OF BULK AT MOST 1048576: true; the input reads as it did. -/
def cplxOnesUptoRow : OpenClaim := { program := "ytiloleochmdfoaa", sum := "aa0152f3bada69c54a87efebf75183f7017e8516265e4fa118444b13cd5256a7", func := "facet/facetlaw16.CplxOnes", spec := "cplxOnes", inPlace := ["math.Float64bits", "math.Float64frombits", "math.sqrt", "math.Float32frombits", "math.Float32bits"], apart := false, narrowed := true }
def CplxOnesUptoSaid : Prop := cplxOnesUptoRow.holds Try.pinned (OpenSpec.upto cplxOnesSpec)

/-- 'facetlaw16.CplxUnits', WHERE WHAT IT READS IS OF BULK AT MOST 1048576: true; the input reads as it did. -/
def cplxUnitsUptoRow : OpenClaim := { program := "ytiloleochmdfoaa", sum := "aa0152f3bada69c54a87efebf75183f7017e8516265e4fa118444b13cd5256a7", func := "facet/facetlaw16.CplxUnits", spec := "cplxUnits", inPlace := ["math.Float64bits", "math.Float64frombits", "math.sqrt"], apart := false, narrowed := true }
def CplxUnitsUptoSaid : Prop := cplxUnitsUptoRow.holds Try.pinned (OpenSpec.upto cplxUnitsSpec)

/-- 'facetlaw16.CplxFixed', WHERE WHAT IT READS IS OF BULK AT MOST 1048576: true; the input reads as it did. -/
def cplxFixedUptoRow : OpenClaim := { program := "ytiloleochmdfoaa", sum := "aa0152f3bada69c54a87efebf75183f7017e8516265e4fa118444b13cd5256a7", func := "facet/facetlaw16.CplxFixed", spec := "cplxFixed", inPlace := ["math.Float64bits", "math.Float64frombits", "math.sqrt", "math.Float32bits"], apart := false, narrowed := true }
def CplxFixedUptoSaid : Prop := cplxFixedUptoRow.holds Try.pinned (OpenSpec.upto cplxFixedSpec)

end Rows
end Go.Proofs.Ytiloleochmdfoaa
