/-
  The statement WholeMatrices: for every input the law returns true, and each argument reads afterwards as it read before. No condition.
-/
import Derived.Test.YtjghhgapacnpeaaLawMat
import Derived.Test.YtjghhgapacnpeaaFrame
namespace Go.Proofs.Ytjghhgapacnpeaa
open Go.ChangeShapes Go.WideShapes Go.ChangeAt Go.RowKit

set_option maxRecDepth 100000 in
theorem wholeMatrices_lifted (os : Os) (started : os.Started) (H : Type) (enc : TypeId × Value → H) :
    ReturnsInHanded {} Try.checked os 3 .any (Rows.wholeMatricesSpec.pre6 enc Try.prog Try.f3 Rows.wholeMatricesRow.domain false) (Rows.wholeMatricesSpec.post enc Try.prog Try.f3 false true false false) := by
  refine returnsInHanded_of_change (C := Try.checked) Try.own started (by kernel_rfl) Try.func3
    (ChangeSpec.witness6 (enc := enc) (C := Try.checked) false ⟨#[], #[.agg #[.int .i8 0, .int .i8 0, .int .i8 0, .int .i8 0, .int .i8 0, .int .i8 0, .int .i8 0, .int .i8 0, .int .i8 0], .agg #[.int .i8 0, .int .i8 0, .int .i8 0, .int .i8 0, .int .i8 0, .int .i8 0, .int .i8 0, .int .i8 0, .int .i8 0], .agg #[.int .i16 0, .int .i16 0, .int .i16 0], .int .u8 0, .bool false], []⟩ 8 (by kernel_rfl) (by kernel_rfl) (by kernel_rfl) (by kernel_rfl)) ?_
  intro W base args ds gs before hval0 hW hcnd _
  have hval : ∀ (j : Nat) t v, Try.f3.params[j]? = some t → args[j]? = some v → Value.okWide Try.prog W .any base t v := hval0
  have hW' := hW
  obtain ⟨p, q, hA0, hV, rfl, hfz, hnd⟩ := hW
  have hA : DataW.TrodAll enc Try.prog W 0 (fun _ => true) true Try.f3.params.toList args.toList ds p := hA0
  rw [Try.params3] at hA hval
  obtain ⟨v0, vs0, d0, ds0, p0, q0, hargs, rfl, rfl, h0, r0⟩ := trodAll_cons hA
  obtain ⟨v1, vs1, d1, ds1, p1, q1, rfl, rfl, rfl, h1, r1⟩ := trodAll_cons r0
  obtain ⟨v2, vs2, d2, ds2, p2, q2, rfl, rfl, rfl, h2, r2⟩ := trodAll_cons r1
  obtain ⟨v3, vs3, d3, ds3, p3, q3, rfl, rfl, rfl, h3, r3⟩ := trodAll_cons r2
  obtain ⟨v4, vs4, d4, ds4, p4, q4, rfl, rfl, rfl, h4, r4⟩ := trodAll_cons r3
  obtain ⟨rfl, rfl, rfl⟩ := trodAll_nil r4
  obtain ⟨rfl, rfl⟩ := trodVars_none hV
  have ha : args = #[v0, v1, v2, v3, v4] := by cases args; simp_all
  subst ha
  have k0 := h0
  have k1 := h1
  have k2 := h2
  have k3 := h3
  have k4 := h4
  obtain ⟨a0, a1, a2, a3, a4, a5, a6, a7, a8, rfl, Wa0, Wa1, Wa2, Wa3, Wa4, Wa5, Wa6, Wa7, Wa8⟩ := open_arr9 Try.underlying23 Try.underlying22 (by kernel_rfl) (by kernel_rfl) (hval 0 23 v0 rfl rfl) h0
  have a0_b := bounds_i8 Wa0
  have a1_b := bounds_i8 Wa1
  have a2_b := bounds_i8 Wa2
  have a3_b := bounds_i8 Wa3
  have a4_b := bounds_i8 Wa4
  have a5_b := bounds_i8 Wa5
  have a6_b := bounds_i8 Wa6
  have a7_b := bounds_i8 Wa7
  have a8_b := bounds_i8 Wa8
  obtain ⟨b0, b1, b2, b3, b4, b5, b6, b7, b8, rfl, Wb0, Wb1, Wb2, Wb3, Wb4, Wb5, Wb6, Wb7, Wb8⟩ := open_arr9 Try.underlying23 Try.underlying22 (by kernel_rfl) (by kernel_rfl) (hval 1 23 v1 rfl rfl) h1
  have b0_b := bounds_i8 Wb0
  have b1_b := bounds_i8 Wb1
  have b2_b := bounds_i8 Wb2
  have b3_b := bounds_i8 Wb3
  have b4_b := bounds_i8 Wb4
  have b5_b := bounds_i8 Wb5
  have b6_b := bounds_i8 Wb6
  have b7_b := bounds_i8 Wb7
  have b8_b := bounds_i8 Wb8
  obtain ⟨u0, u1, u2, rfl, Wu0, Wu1, Wu2⟩ := open_arr3 Try.underlying25 Try.underlying24 (by kernel_rfl) (by kernel_rfl) (hval 2 25 v2 rfl rfl) h2
  have u0_b := bounds_i16 Wu0
  have u1_b := bounds_i16 Wu1
  have u2_b := bounds_i16 Wu2
  obtain ⟨k, rfl, wk⟩ := open_num Try.underlying5 (hval 3 5 v3 rfl rfl) h3
  have k_b := bounds_u8 wk
  obtain ⟨hex, rfl⟩ := okWide_bool Try.underlying4 (hval 4 4 v4 rfl rfl)
  have hlt := hW'.lt
  refine (matrices_any a0 a1 a2 a3 a4 a5 a6 a7 a8 b0 b1 b2 b3 b4 b5 b6 b7 b8 u0 u1 u2 k a0_b a1_b a2_b a3_b a4_b a5_b a6_b a7_b a8_b b0_b b1_b b2_b b3_b b4_b b5_b b6_b b7_b b8_b u0_b u1_b u2_b k_b hex W).mono fun e W' ⟨he, hb⟩ => ?_
  subst he
  exact ⟨_, rfl, post_of_below (pa := p0 ++ (p1 ++ (p2 ++ (p3 ++ (p4 ++ []))))) (pv := []) hW' (fun _ _ _ => trodAll_mk1 (shut_bool Try.underlying4 true)) (fun sp hsp => (trodAll_cons_mk (again Try.laidOut (by kernel_rfl) (of_decide_eq_true (by kernel_rfl)) k0 hb (fun x hx => hlt x (by simp [hx])) sp (fun x hx => hsp x (by simp [hx]))) (trodAll_cons_mk (again Try.laidOut (by kernel_rfl) (of_decide_eq_true (by kernel_rfl)) k1 hb (fun x hx => hlt x (by simp [hx])) sp (fun x hx => hsp x (by simp [hx]))) (trodAll_cons_mk (again Try.laidOut (by kernel_rfl) (of_decide_eq_true (by kernel_rfl)) k2 hb (fun x hx => hlt x (by simp [hx])) sp (fun x hx => hsp x (by simp [hx]))) (trodAll_cons_mk (again Try.laidOut (by kernel_rfl) (of_decide_eq_true (by kernel_rfl)) k3 hb (fun x hx => hlt x (by simp [hx])) sp (fun x hx => hsp x (by simp [hx]))) (trodAll_cons_mk (again Try.laidOut (by kernel_rfl) (of_decide_eq_true (by kernel_rfl)) k4 hb (fun x hx => hlt x (by simp [hx])) sp (fun x hx => hsp x (by simp [hx]))) (show DataW.TrodAll enc Try.prog W' 0 sp true [] [] [] [] from rfl))))))) (fun _ _ => rfl) (by simp) hb (ok_one (by kernel_rfl) rfl (okWide_bool_mk Try.underlying4 true))⟩
theorem wholeMatrices_holds : Rows.WholeMatricesSaid :=
  OpenClaim.holds_of_wide 3 Try.f3 rfl rfl rfl rfl rfl rfl rfl ⟨rfl, rfl, rfl, rfl, rfl⟩ rfl rfl rfl rfl rfl (by kernel_rfl) Try.func3 (by kernel_rfl)
    (of_decide_eq_true (by kernel_rfl)) (by unfold Func.isWrapper; first | (rw [if_pos (by decide +kernel)]; kernel_rfl) | (rw [if_neg (by decide +kernel)]; exact ⟨rfl, rfl⟩))
    (fun os started H enc _ => wholeMatrices_lifted os started H enc)
#print axioms wholeMatrices_holds
end Go.Proofs.Ytjghhgapacnpeaa
