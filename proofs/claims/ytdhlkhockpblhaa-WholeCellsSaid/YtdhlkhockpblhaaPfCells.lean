/-
  The statement WholeCells: for every input the law returns true, and each argument reads afterwards as it read before. No condition.
-/
import Derived.Test.YtdhlkhockpblhaaLawCellsB
import Derived.Test.YtdhlkhockpblhaaFrameC
namespace Go.Proofs.Ytdhlkhockpblhaa
open Go.ChangeShapes Go.WideShapes Go.ChangeAt Go.RowKit

set_option maxRecDepth 100000 in
theorem wholeCells_lifted (os : Os) (started : os.Started) (H : Type) (enc : TypeId × Value → H) :
    ReturnsInHanded {} Try.checked os 9 .any (Rows.wholeCellsSpec.pre6 enc Try.prog Try.f9 Rows.wholeCellsRow.domain false) (Rows.wholeCellsSpec.post enc Try.prog Try.f9 false true false false) := by
  refine returnsInHanded_of_change (C := Try.checked) Try.own started (by kernel_rfl) Try.func9
    (ChangeSpec.witness6 (enc := enc) (C := Try.checked) false ⟨#[], #[.agg #[.int .i8 0, .int .i8 0, .int .i8 0, .int .i8 0, .int .i8 0, .int .i8 0, .int .i8 0, .int .i8 0, .int .i8 0], .agg #[.int .i8 0, .int .i8 0, .int .i8 0], .agg #[.int .i8 0, .int .i8 0, .int .i8 0], .agg #[.int .u8 0, .int .u8 0, .int .u8 0], .int .u8 0], []⟩ 8 (by kernel_rfl) (by kernel_rfl) (by kernel_rfl) (by kernel_rfl)) ?_
  intro W base args ds gs before hval0 hW hcnd _
  have hval : ∀ (j : Nat) t v, Try.f9.params[j]? = some t → args[j]? = some v → Value.okWide Try.prog W .any base t v := hval0
  have hW' := hW
  obtain ⟨p, q, hA0, hV, rfl, hfz, hnd⟩ := hW
  have hA : DataW.TrodAll enc Try.prog W 0 (fun _ => true) true Try.f9.params.toList args.toList ds p := hA0
  rw [Try.params9] at hA hval
  obtain ⟨v0, vs0, d0, ds0, p0, q0, hargs, rfl, rfl, h0, r0⟩ := trodAll_cons hA
  obtain ⟨v1, vs1, d1, ds1, p1, q1, rfl, rfl, rfl, h1, r1⟩ := trodAll_cons r0
  obtain ⟨v2, vs2, d2, ds2, p2, q2, rfl, rfl, rfl, h2, r2⟩ := trodAll_cons r1
  obtain ⟨v3, vs3, d3, ds3, p3, q3, rfl, rfl, rfl, h3, r3⟩ := trodAll_cons r2
  obtain ⟨v4, vs4, d4, ds4, p4, q4, rfl, rfl, rfl, h4, r4⟩ := trodAll_cons r3
  obtain ⟨rfl, rfl, rfl⟩ := trodAll_nil r4
  obtain ⟨rfl, rfl⟩ := trodVars_none hV
  have ha : args = #[v0, v1, v2, v3, v4] := by cases args; simp_all
  subst ha
  have k0 := h0
  have k1 := h1
  have k2 := h2
  have k3 := h3
  have k4 := h4
  obtain ⟨b0, b1, b2, b3, b4, b5, b6, b7, b8, rfl, Wb0, Wb1, Wb2, Wb3, Wb4, Wb5, Wb6, Wb7, Wb8⟩ := open_arr9 Try.underlying60 Try.underlying56 (by kernel_rfl) (by kernel_rfl) (hval 0 60 v0 rfl rfl) h0
  have hb0 := bounds_i8 Wb0
  have hb1 := bounds_i8 Wb1
  have hb2 := bounds_i8 Wb2
  have hb3 := bounds_i8 Wb3
  have hb4 := bounds_i8 Wb4
  have hb5 := bounds_i8 Wb5
  have hb6 := bounds_i8 Wb6
  have hb7 := bounds_i8 Wb7
  have hb8 := bounds_i8 Wb8
  obtain ⟨x0, x1, x2, rfl, Wx0, Wx1, Wx2⟩ := open_arr3 Try.underlying57 Try.underlying56 (by kernel_rfl) (by kernel_rfl) (hval 1 57 v1 rfl rfl) h1
  have bx0 := bounds_i8 Wx0
  have bx1 := bounds_i8 Wx1
  have bx2 := bounds_i8 Wx2
  obtain ⟨z0, z1, z2, rfl, Wz0, Wz1, Wz2⟩ := open_arr3 Try.underlying57 Try.underlying56 (by kernel_rfl) (by kernel_rfl) (hval 2 57 v2 rfl rfl) h2
  have bz0 := bounds_i8 Wz0
  have bz1 := bounds_i8 Wz1
  have bz2 := bounds_i8 Wz2
  obtain ⟨y0, y1, y2, rfl, Wy0, Wy1, Wy2⟩ := open_arr3 Try.underlying61 Try.underlying5 (by kernel_rfl) (by kernel_rfl) (hval 3 61 v3 rfl rfl) h3
  have by0 := bounds_u8 Wy0
  have by1 := bounds_u8 Wy1
  have by2 := bounds_u8 Wy2
  obtain ⟨k, rfl, wk⟩ := open_num Try.underlying5 (hval 4 5 v4 rfl rfl) h4
  have bk := bounds_u8 wk
  have hlt := hW'.lt
  refine (cells_any b0 b1 b2 b3 b4 b5 b6 b7 b8 x0 x1 x2 z0 z1 z2 y0 y1 y2 k W hb0 hb1 hb2 hb3 hb4 hb5 hb6 hb7 hb8 bx0 bx1 bx2 bz0 bz1 bz2 by0 by1 by2 bk).mono fun e W' ⟨he, hb⟩ => ?_
  subst he
  exact ⟨_, rfl, post_of_below (pa := p0 ++ (p1 ++ (p2 ++ (p3 ++ (p4 ++ []))))) (pv := []) hW' (fun _ _ _ => trodAll_mk1 (shut_bool Try.underlying4 true)) (fun sp hsp => (trodAll_cons_mk (again Try.laidOut (by kernel_rfl) (of_decide_eq_true (by kernel_rfl)) k0 hb (fun x hx => hlt x (by simp [hx])) sp (fun x hx => hsp x (by simp [hx]))) (trodAll_cons_mk (again Try.laidOut (by kernel_rfl) (of_decide_eq_true (by kernel_rfl)) k1 hb (fun x hx => hlt x (by simp [hx])) sp (fun x hx => hsp x (by simp [hx]))) (trodAll_cons_mk (again Try.laidOut (by kernel_rfl) (of_decide_eq_true (by kernel_rfl)) k2 hb (fun x hx => hlt x (by simp [hx])) sp (fun x hx => hsp x (by simp [hx]))) (trodAll_cons_mk (again Try.laidOut (by kernel_rfl) (of_decide_eq_true (by kernel_rfl)) k3 hb (fun x hx => hlt x (by simp [hx])) sp (fun x hx => hsp x (by simp [hx]))) (trodAll_cons_mk (again Try.laidOut (by kernel_rfl) (of_decide_eq_true (by kernel_rfl)) k4 hb (fun x hx => hlt x (by simp [hx])) sp (fun x hx => hsp x (by simp [hx]))) (show DataW.TrodAll enc Try.prog W' 0 sp true [] [] [] [] from rfl))))))) (fun _ _ => rfl) (by simp) hb (ok_one (by kernel_rfl) rfl (okWide_bool_mk Try.underlying4 true))⟩
theorem wholeCells_holds : Rows.WholeCellsSaid :=
  OpenClaim.holds_of_wide 9 Try.f9 rfl rfl rfl rfl rfl rfl rfl ⟨rfl, rfl, rfl, rfl, rfl⟩ rfl rfl rfl rfl rfl (by kernel_rfl) Try.func9 (by kernel_rfl)
    (of_decide_eq_true (by kernel_rfl)) (by unfold Func.isWrapper; first | (rw [if_pos (by decide +kernel)]; kernel_rfl) | (rw [if_neg (by decide +kernel)]; exact ⟨rfl, rfl⟩))
    (fun os started H enc _ => wholeCells_lifted os started H enc)
#print axioms wholeCells_holds
end Go.Proofs.Ytdhlkhockpblhaa
