/-
  The law NttLaws.
-/
import Derived.Test.YtjmhnmlmnlefaaaNttAL
namespace Go.Proofs.Ytjmhnmlmnlefaaa
open Go.RowKit Go.Lib
attribute [local irreducible] World.setCell
set_option linter.unusedSimpArgs false
set_option linter.unusedVariables false


theorem laws_any {n0 n1 n2 m0 m1 m2 k : Int} {sa sb : Value} {la lb : Nat} {V W : Nat → Int} {w : World} (hA : Rd w sa la (fun i => .int .i64 (V i))) (hB : Rd w sb lb (fun i => .int .i64 (W i))) (hla : la ≤ 17592186044416) (hlb : lb ≤ 17592186044416) :
    Calls Try.prog 4 #[.agg #[.int .i64 n0, .int .i64 n1, .int .i64 n2, sa], .agg #[.int .i64 m0, .int .i64 m1, .int .i64 m2, sb], .int .i64 k] w fun e w' => e = .returned (.bool true) ∧ Below w.heap.size w w' := by
  obtain ⟨ca, hca, hga, hpa, hda⟩ := grid_code n0 n1 n2 sa la V w hA hla
  obtain ⟨cb, hcb, hgb, hpb, hdb⟩ := grid_code m0 m1 m2 sb lb W w hB hlb
  by_cases hf : fcode n0 n1 n2 m0 m1 m2 ca cb = 0
  · obtain ⟨ea, eb, rfl, rfl, rfl⟩ := fcode_zero hf hca.1 hcb.1
    have ga := hga ea; have gb := hgb eb
    have e0 := right_nat ga.r0; have e1 := right_nat ga.r1; have e2 := right_nat ga.r2
    have hL : lb = la := by rw [ga.hL, gb.hL]
    subst hL
    obtain ⟨a, ka, rfl, hA⟩ := hA
    obtain ⟨b, kb, rfl, hB⟩ := hB
    have hr : rightB ((n0.toNat : Nat) : Int) = true ∧ rightB ((n1.toNat : Nat) : Int) = true ∧ rightB ((n2.toNat : Nat) : Int) = true := by rw [e0, e1, e2]; exact ⟨ga.r0, ga.r1, ga.r2⟩
    have hpos : 0 < lb := by rw [ga.hL]; exact Nat.mul_pos (Nat.mul_pos (right_le hr.1).1 (right_le hr.2.1).1) (right_le hr.2.2).1
    obtain ⟨ba, oa, rfl, hl1, hV⟩ := hA hpos
    obtain ⟨bb, ob, rfl, hl2, hW⟩ := hB hpos
    have h := laws_ok n0.toNat n1.toNat n2.toNat lb ba oa ka bb ob kb k V W w hr ga.hL ga.hb hl1 hl2 hV ga.hV hW gb.hV
    rw [e0, e1, e2] at h
    exact h
  · have hf' : fcode m0 m1 m2 n0 n1 n2 cb ca ≠ 0 := by rw [fcode_comm hca.1 hcb.1]; exact hf
    refine laws_bad n0 n1 n2 m0 m1 m2 k _ sa sb w hf (fun w' hb => ?_) (fun w' hb => ?_)
    · exact Fold_bad n0 n1 n2 m0 m1 m2 ca cb sa sb w' hf (fun w'' h => hpa w'' (hb.trans (h.mono hb.size))) (fun w'' h => hpb w'' (hb.trans (h.mono hb.size)))
    · have h := Fold_bad m0 m1 m2 n0 n1 n2 cb ca sb sa w' hf' (fun w'' h => hpb w'' (hb.trans (h.mono hb.size))) (fun w'' h => hpa w'' (hb.trans (h.mono hb.size)))
      rw [fcode_comm hca.1 hcb.1] at h
      exact h

end Go.Proofs.Ytjmhnmlmnlefaaa
