/-
  The statement WholePlaces: for every input the law returns true, and each argument reads afterwards as it read before. No condition.
-/
import Derived.Test.YtpjljlnkfimbaaaWholeD
import Derived.Test.YtpjljlnkfimbaaaFrameB
namespace Go.Proofs.Ytpjljlnkfimbaaa
open Go.ChangeShapes Go.WideShapes Go.ChangeAt Go.RowKit

set_option maxRecDepth 100000 in
theorem wholePlaces_lifted (os : Os) (started : os.Started) (H : Type) (enc : TypeId × Value → H) :
    ReturnsInHanded {} Try.checked os 9 .any (Rows.wholePlacesSpec.pre6 enc Try.prog Try.f9 Rows.wholePlacesRow.domain false) (Rows.wholePlacesSpec.post enc Try.prog Try.f9 false true false false) := by
  refine returnsInHanded_of_change (C := Try.checked) Try.own started (by kernel_rfl) Try.func9
    (ChangeSpec.witness6 (enc := enc) (C := Try.checked) false ⟨#[], #[.agg #[.int .i16 0, .int .i16 0, .int .i16 0], .agg #[.int .i16 0, .int .i16 0, .int .i16 0], .int .u8 0, .agg #[.int .i16 0, .int .i16 0, .int .i16 0], .int .i8 0], []⟩ 8 (by kernel_rfl) (by kernel_rfl) (by kernel_rfl) (by kernel_rfl)) ?_
  intro W base args ds gs before hval0 hW hcnd _
  have hval : ∀ (j : Nat) t v, Try.f9.params[j]? = some t → args[j]? = some v → Value.okWide Try.prog W .any base t v := hval0
  have hW' := hW
  obtain ⟨p, q, hA0, hV, rfl, hfz, hnd⟩ := hW
  have hA : DataW.TrodAll enc Try.prog W 0 (fun _ => true) true Try.f9.params.toList args.toList ds p := hA0
  rw [Try.params9] at hA hval
  obtain ⟨v0, vs0, d0, ds0, p0, q0, hargs, rfl, rfl, h0, r0⟩ := trodAll_cons hA
  obtain ⟨v1, vs1, d1, ds1, p1, q1, rfl, rfl, rfl, h1, r1⟩ := trodAll_cons r0
  obtain ⟨v2, vs2, d2, ds2, p2, q2, rfl, rfl, rfl, h2, r2⟩ := trodAll_cons r1
  obtain ⟨v3, vs3, d3, ds3, p3, q3, rfl, rfl, rfl, h3, r3⟩ := trodAll_cons r2
  obtain ⟨v4, vs4, d4, ds4, p4, q4, rfl, rfl, rfl, h4, r4⟩ := trodAll_cons r3
  obtain ⟨rfl, rfl, rfl⟩ := trodAll_nil r4
  obtain ⟨rfl, rfl⟩ := trodVars_none hV
  have ha : args = #[v0, v1, v2, v3, v4] := by cases args; simp_all
  subst ha
  have k0 := h0
  have k1 := h1
  have k2 := h2
  have k3 := h3
  have k4 := h4
  obtain ⟨a0, a1, a2, rfl, W00, W01, W02⟩ := open_arr3 Try.underlying58 Try.underlying57 (by kernel_rfl) (by kernel_rfl) (hval 0 58 v0 rfl rfl) h0
  have a0_b := bounds_i16 W00
  have a1_b := bounds_i16 W01
  have a2_b := bounds_i16 W02
  obtain ⟨b0, b1, b2, rfl, W10, W11, W12⟩ := open_arr3 Try.underlying58 Try.underlying57 (by kernel_rfl) (by kernel_rfl) (hval 1 58 v1 rfl rfl) h1
  have b0_b := bounds_i16 W10
  have b1_b := bounds_i16 W11
  have b2_b := bounds_i16 W12
  obtain ⟨k, rfl, wk⟩ := open_num Try.underlying5 (hval 2 5 v2 rfl rfl) h2
  have k_b := bounds_u8 wk
  obtain ⟨x0, x1, x2, rfl, W30, W31, W32⟩ := open_arr3 Try.underlying58 Try.underlying57 (by kernel_rfl) (by kernel_rfl) (hval 3 58 v3 rfl rfl) h3
  have x0_b := bounds_i16 W30
  have x1_b := bounds_i16 W31
  have x2_b := bounds_i16 W32
  obtain ⟨n, rfl, wn⟩ := open_num Try.underlying59 (hval 4 59 v4 rfl rfl) h4
  have n_b := bounds_i8 wn
  have hlt := hW'.lt
  refine (whole_any a0 a1 a2 b0 b1 b2 k x0 x1 x2 n W a0_b.1 a0_b.2 a1_b.1 a1_b.2 a2_b.1 a2_b.2 b0_b.1 b0_b.2 b1_b.1 b1_b.2 b2_b.1 b2_b.2 x0_b.1 x0_b.2 x1_b.1 x1_b.2 x2_b.1 x2_b.2 k_b.1 k_b.2 n_b.1 n_b.2).mono fun e W' ⟨he, hb⟩ => ?_
  subst he
  exact ⟨_, rfl, post_of_below (pa := p0 ++ (p1 ++ (p2 ++ (p3 ++ (p4 ++ []))))) (pv := []) hW' (fun _ _ _ => trodAll_mk1 (shut_bool Try.underlying4 true)) (fun sp hsp => (trodAll_cons_mk (again Try.laidOut (by kernel_rfl) (of_decide_eq_true (by kernel_rfl)) k0 hb (fun x hx => hlt x (by simp [hx])) sp (fun x hx => hsp x (by simp [hx]))) (trodAll_cons_mk (again Try.laidOut (by kernel_rfl) (of_decide_eq_true (by kernel_rfl)) k1 hb (fun x hx => hlt x (by simp [hx])) sp (fun x hx => hsp x (by simp [hx]))) (trodAll_cons_mk (again Try.laidOut (by kernel_rfl) (of_decide_eq_true (by kernel_rfl)) k2 hb (fun x hx => hlt x (by simp [hx])) sp (fun x hx => hsp x (by simp [hx]))) (trodAll_cons_mk (again Try.laidOut (by kernel_rfl) (of_decide_eq_true (by kernel_rfl)) k3 hb (fun x hx => hlt x (by simp [hx])) sp (fun x hx => hsp x (by simp [hx]))) (trodAll_cons_mk (again Try.laidOut (by kernel_rfl) (of_decide_eq_true (by kernel_rfl)) k4 hb (fun x hx => hlt x (by simp [hx])) sp (fun x hx => hsp x (by simp [hx]))) (show DataW.TrodAll enc Try.prog W' 0 sp true [] [] [] [] from rfl))))))) (fun _ _ => rfl) (by simp) hb (ok_one (by kernel_rfl) rfl (okWide_bool_mk Try.underlying4 true))⟩
theorem wholePlaces_holds : Rows.WholePlacesSaid :=
  OpenClaim.holds_of_wide 9 Try.f9 rfl rfl rfl rfl rfl rfl rfl ⟨rfl, rfl, rfl, rfl, rfl⟩ rfl rfl rfl rfl rfl (by kernel_rfl) Try.func9 (by kernel_rfl)
    (of_decide_eq_true (by kernel_rfl)) (by unfold Func.isWrapper; first | (rw [if_pos (by decide +kernel)]; kernel_rfl) | (rw [if_neg (by decide +kernel)]; exact ⟨rfl, rfl⟩))
    (fun os started H enc _ => wholePlaces_lifted os started H enc)
#print axioms wholePlaces_holds
end Go.Proofs.Ytpjljlnkfimbaaa
