/-
  The statement WholeExactTransforms: for every three bytes, lists of small whole numbers, list of words and byte the law returns true, and the arguments read afterwards as they read before. Its condition: none.
-/
import Derived.Test.YtjmhnmlmnlefaaaNttAT
import Derived.Test.YtjmhnmlmnlefaaaLists3
import Derived.Test.YtjmhnmlmnlefaaaFrame
namespace Go.Proofs.Ytjmhnmlmnlefaaa
open Go.ChangeShapes Go.WideShapes Go.ChangeAt Go.RowKit

set_option maxRecDepth 100000 in
theorem wholeExactTransforms_lifted (os : Os) (started : os.Started) (H : Type) (enc : TypeId × Value → H) :
    ReturnsInHanded {} Try.checked os 12 .any (Rows.wholeExactTransformsSpec.pre6 enc Try.prog Try.f12 Rows.wholeExactTransformsRow.domain false) (Rows.wholeExactTransformsSpec.post enc Try.prog Try.f12 false true false false) := by
  refine returnsInHanded_of_change_sized (C := Try.checked) Try.own started (by kernel_rfl) Try.func12
    (ChangeSpec.witness6 (enc := enc) (C := Try.checked) false ⟨#[], #[.agg #[.int .u8 0, .int .u8 0, .int .u8 0], .slice none 0 0, .slice none 0 0, .slice none 0 0, .int .u8 0], []⟩ 8 (by kernel_rfl) (by kernel_rfl) (by kernel_rfl) (by kernel_rfl)) ?_
  intro W base args ds gs before hval0 hW _ hsz0 _
  have hsz : (DataW.weightsEach Try.prog (Try.f12.params.toList ++ Rows.wholeExactTransformsSpec.plain.varTypes Try.prog) (ds ++ gs)).all (· ≤ reachBytes) = true := hsz0
  have hval : ∀ (j : Nat) t v, Try.f12.params[j]? = some t → args[j]? = some v → Value.okWide Try.prog W .any base t v := hval0
  have hW' := hW
  obtain ⟨p, q, hA0, hV, rfl, hfz, hnd⟩ := hW
  have hA : DataW.TrodAll enc Try.prog W 0 (fun _ => true) true Try.f12.params.toList args.toList ds p := hA0
  rw [Try.params12] at hA hval hsz
  obtain ⟨v0, vs0, d0, ds0, p0, q0, hargs, rfl, rfl, h0, r0⟩ := trodAll_cons hA
  obtain ⟨v1, vs1, d1, ds1, p1, q1, rfl, rfl, rfl, h1, r1⟩ := trodAll_cons r0
  obtain ⟨v2, vs2, d2, ds2, p2, q2, rfl, rfl, rfl, h2, r2⟩ := trodAll_cons r1
  obtain ⟨v3, vs3, d3, ds3, p3, q3, rfl, rfl, rfl, h3, r3⟩ := trodAll_cons r2
  obtain ⟨v4, vs4, d4, ds4, p4, q4, rfl, rfl, rfl, h4, r4⟩ := trodAll_cons r3
  obtain ⟨rfl, rfl, rfl⟩ := trodAll_nil r4
  obtain ⟨rfl, rfl⟩ := trodVars_none hV
  have ha : args = #[v0, v1, v2, v3, v4] := by cases args; simp_all
  subst ha
  have k0 := h0
  have k1 := h1
  have k2 := h2
  have k3 := h3
  have k4 := h4
  have c5 : Try.prog.cellsOf 5 = 1 := by kernel_rfl
  have c60 : Try.prog.cellsOf 60 = 3 := by kernel_rfl
  obtain ⟨a0, a1, a2, rfl, hw0⟩ := open_arr3 Try.underlying60 Try.underlying5 c5 c60 (hval 0 60 v0 rfl rfl) h0
  obtain ⟨pn, pV, hl1⟩ := open_i16s (j := 1) (hval 1 61 v1 rfl rfl) h1 hsz (by kernel_rfl) rfl (fun x hx => hW'.lt x (by simp [hx]))
  obtain ⟨qn, qV, hl2⟩ := open_i16s (j := 2) (hval 2 61 v2 rfl rfl) h2 hsz (by kernel_rfl) rfl (fun x hx => hW'.lt x (by simp [hx]))
  obtain ⟨xn, xX, hl3, hb3⟩ := open_wordsb (j := 3) (hval 3 40 v3 rfl rfl) h3 hsz (by kernel_rfl) rfl (fun x hx => hW'.lt x (by simp [hx]))
  obtain ⟨k, rfl, wk⟩ := open_num Try.underlying5 (hval 4 5 v4 rfl rfl) h4
  have hlt := hW'.lt
  refine (exact_law hw0 wk hl1 hl2 hl3 hb3).mono fun e W' ⟨he, hb⟩ => ?_
  subst he
  exact ⟨_, rfl, post_of_below (pa := p0 ++ (p1 ++ (p2 ++ (p3 ++ (p4 ++ []))))) (pv := []) hW' (fun _ _ _ => trodAll_mk1 (shut_bool Try.underlying4 true)) (fun sp hsp => (trodAll_cons_mk (again Try.laidOut (by kernel_rfl) (of_decide_eq_true (by kernel_rfl)) k0 hb (fun x hx => hlt x (by simp [hx])) sp (fun x hx => hsp x (by simp [hx]))) (trodAll_cons_mk (again Try.laidOut (by kernel_rfl) (of_decide_eq_true (by kernel_rfl)) k1 hb (fun x hx => hlt x (by simp [hx])) sp (fun x hx => hsp x (by simp [hx]))) (trodAll_cons_mk (again Try.laidOut (by kernel_rfl) (of_decide_eq_true (by kernel_rfl)) k2 hb (fun x hx => hlt x (by simp [hx])) sp (fun x hx => hsp x (by simp [hx]))) (trodAll_cons_mk (again Try.laidOut (by kernel_rfl) (of_decide_eq_true (by kernel_rfl)) k3 hb (fun x hx => hlt x (by simp [hx])) sp (fun x hx => hsp x (by simp [hx]))) (trodAll_cons_mk (again Try.laidOut (by kernel_rfl) (of_decide_eq_true (by kernel_rfl)) k4 hb (fun x hx => hlt x (by simp [hx])) sp (fun x hx => hsp x (by simp [hx]))) (show DataW.TrodAll enc Try.prog W' 0 sp true [] [] [] [] from rfl))))))) (fun _ _ => rfl) (by simp) hb (ok_one (by kernel_rfl) rfl (okWide_bool_mk Try.underlying4 true))⟩
theorem wholeExactTransforms_holds : Rows.WholeExactTransformsSaid :=
  OpenClaim.holds_of_wide 12 Try.f12 rfl rfl rfl rfl rfl rfl rfl ⟨rfl, rfl, rfl, rfl, rfl⟩ rfl rfl rfl rfl rfl (by kernel_rfl) Try.func12 (by kernel_rfl)
    (of_decide_eq_true (by kernel_rfl)) (by unfold Func.isWrapper; first | (rw [if_pos (by decide +kernel)]; kernel_rfl) | (rw [if_neg (by decide +kernel)]; exact ⟨rfl, rfl⟩))
    (fun os started H enc _ => wholeExactTransforms_lifted os started H enc)
#print axioms wholeExactTransforms_holds
end Go.Proofs.Ytjmhnmlmnlefaaa
