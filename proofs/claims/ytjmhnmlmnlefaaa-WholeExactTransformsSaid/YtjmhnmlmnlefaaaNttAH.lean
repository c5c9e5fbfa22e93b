/-
  Both folds.
-/
import Derived.Test.YtjmhnmlmnlefaaaNttAG
namespace Go.Proofs.Ytjmhnmlmnlefaaa
open Go.RowKit Go.Lib
attribute [local irreducible] World.setCell
set_option linter.unusedSimpArgs false
set_option linter.unusedVariables false


/-- A grid's value. -/
abbrev gv (n0 n1 n2 : Int) (s : Value) : Value := .agg #[.int .i64 n0, .int .i64 n1, .int .i64 n2, s]
/-- What a fold gives, refused or not. -/
def FoldC (F : FuncId) (A B : Value) (p0 p1 p2 f : Int) (K : Nat) (Z : Nat → Int) (w : World) : Prop :=
  Calls Try.prog F #[A, B] w fun e w' => (∃ s, e = .returned (.tuple #[.agg #[.int .i64 p0, .int .i64 p1, .int .i64 p2, s], .int .i64 f]) ∧ Rd w' s K (fun i => .int .i64 (Z i))) ∧ Below w.heap.size w w'
theorem fold_both {n0 n1 n2 m0 m1 m2 : Int} {sa sb : Value} {la lb : Nat} {V W : Nat → Int} {w : World} (hA : Rd w sa la (fun i => .int .i64 (V i))) (hB : Rd w sb lb (fun i => .int .i64 (W i))) (hla : la ≤ 17592186044416) (hlb : lb ≤ 17592186044416) :
    ∃ p0 p1 p2 f : Int, ∃ K : Nat, ∃ Z : Nat → Int, K ≤ 17592186044416 ∧ (∀ w', Below w.heap.size w w' → FoldC 15 (gv n0 n1 n2 sa) (gv m0 m1 m2 sb) p0 p1 p2 f K Z w') ∧ (∀ w', Below w.heap.size w w' → FoldC 16 (gv n0 n1 n2 sa) (gv m0 m1 m2 sb) p0 p1 p2 f K Z w') := by
  obtain ⟨ca, hca, hga, hpa, hda⟩ := grid_code n0 n1 n2 sa la V w hA hla
  obtain ⟨cb, hcb, hgb, hpb, hdb⟩ := grid_code m0 m1 m2 sb lb W w hB hlb
  by_cases hf : fcode n0 n1 n2 m0 m1 m2 ca cb = 0
  · obtain ⟨ea, eb, rfl, rfl, rfl⟩ := fcode_zero hf hca.1 hcb.1
    have ga := hga ea; have gb := hgb eb
    have e0 := right_nat ga.r0; have e1 := right_nat ga.r1; have e2 := right_nat ga.r2
    have hL : lb = la := by rw [ga.hL, gb.hL]
    subst hL
    obtain ⟨a, ka, rfl, hA⟩ := hA
    obtain ⟨b, kb, rfl, hB⟩ := hB
    have hr : rightB ((n0.toNat : Nat) : Int) = true ∧ rightB ((n1.toNat : Nat) : Int) = true ∧ rightB ((n2.toNat : Nat) : Int) = true := by rw [e0, e1, e2]; exact ⟨ga.r0, ga.r1, ga.r2⟩
    have hpos : 0 < lb := by rw [ga.hL]; exact Nat.mul_pos (Nat.mul_pos (right_le hr.1).1 (right_le hr.2.1).1) (right_le hr.2.2).1
    obtain ⟨ba, oa, rfl, hl1, hV⟩ := hA hpos
    obtain ⟨bb, ob, rfl, hl2, hW⟩ := hB hpos
    have hV' : ∀ w', Below w.heap.size w w' → ∀ i, i < lb → w'.cell? ⟨ba, oa + i, none⟩ = some (.int .i64 (V i)) := fun w' hb i hi => (hb.cell (p := ⟨ba, oa + i, none⟩) hl1).trans (hV i hi)
    have hW' : ∀ w', Below w.heap.size w w' → ∀ i, i < lb → w'.cell? ⟨bb, ob + i, none⟩ = some (.int .i64 (W i)) := fun w' hb i hi => (hb.cell (p := ⟨bb, ob + i, none⟩) hl2).trans (hW i hi)
    refine ⟨n0, n1, n2, 0, lb, foldZ n0.toNat n1.toNat n2.toNat V W, hlb, fun w' hb => ?_, fun w' hb => ?_⟩
    · have h := Fold_ok n0.toNat n1.toNat n2.toNat lb ba oa ka bb ob kb V W w' hr ga.hL ga.hb (Nat.lt_of_lt_of_le hl1 hb.size) (Nat.lt_of_lt_of_le hl2 hb.size) (hV' w' hb) ga.hV (hW' w' hb) gb.hV
      rw [e0, e1, e2] at h
      refine h.mono ?_
      rintro e w'' ⟨⟨g, rfl, _, hrow⟩, hb2⟩
      exact ⟨⟨_, rfl, rd_row hrow⟩, hb2⟩
    · subst ea eb
      refine (DocFold_ok n0 n1 n2 _ _ lb (foldZ n0.toNat n1.toNat n2.toNat V W) w' (fun w'' h => hda w'' (hb.trans (h.mono hb.size))) (fun w'' h => hdb w'' (hb.trans (h.mono hb.size))) (fun w'' h => ?_)).mono ?_
      · have hbb := hb.trans (h.mono hb.size)
        have h := RFold_ok n0.toNat n1.toNat n2.toNat lb ba oa ka bb ob kb V W w'' hr ga.hL ga.hb (Nat.lt_of_lt_of_le hl1 hbb.size) (Nat.lt_of_lt_of_le hl2 hbb.size) (hV' w'' hbb) ga.hV (hW' w'' hbb) gb.hV
        rw [e0, e1, e2] at h
        exact h
      · rintro e w'' ⟨⟨g, rfl, _, hrow⟩, hb2⟩
        exact ⟨⟨_, rfl, rd_row hrow⟩, hb2⟩
  · refine ⟨0, 0, 0, fcode n0 n1 n2 m0 m1 m2 ca cb, 0, fun _ => 0, by omega, fun w' hb => ?_, fun w' hb => ?_⟩
    · refine (Fold_bad n0 n1 n2 m0 m1 m2 ca cb sa sb w' hf (fun w'' h => hpa w'' (hb.trans (h.mono hb.size))) (fun w'' h => hpb w'' (hb.trans (h.mono hb.size)))).mono ?_
      rintro e w'' ⟨rfl, hb2⟩
      exact ⟨⟨_, rfl, rd_nil _ _⟩, hb2⟩
    · refine (DocFold_bad n0 n1 n2 m0 m1 m2 ca cb sa sb w' hf hca hcb (fun w'' h => hda w'' (hb.trans (h.mono hb.size))) (fun w'' h => hdb w'' (hb.trans (h.mono hb.size)))).mono ?_
      rintro e w'' ⟨rfl, hb2⟩
      exact ⟨⟨_, rfl, rd_nil _ _⟩, hb2⟩
theorem few_any (n0 n1 n2 : Int) {s : Value} {len : Nat} {V : Nat → Int} {w : World} (hR : Rd w s len (fun i => .int .i64 (V i))) (hl : len ≤ 17592186044416) : ∃ b, ∀ w', Below w.heap.size w w' → Calls Try.prog 14 #[gv n0 n1 n2 s] w' fun e w'' => e = .returned (.bool b) ∧ Below w'.heap.size w' w'' := by
  obtain ⟨c, _, _, _, hd⟩ := grid_code n0 n1 n2 s len V w hR hl
  obtain ⟨a, cap, rfl, _⟩ := hR
  exact ⟨_, fun w' hb => few_box n0 n1 n2 c len cap a w' hl (fun w'' h => hd w'' (hb.trans (h.mono hb.size)))⟩

end Go.Proofs.Ytjmhnmlmnlefaaa
