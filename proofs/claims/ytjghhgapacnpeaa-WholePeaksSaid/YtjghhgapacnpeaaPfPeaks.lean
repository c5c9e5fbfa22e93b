/-
  The statement WholePeaks: for every three bytes, list of small whole numbers and level the law returns true, and the arguments read afterwards as they read before. Its condition: none.
-/
import Derived.Test.YtjghhgapacnpeaaLawPeaks
import Derived.Test.YtjghhgapacnpeaaFramePk
namespace Go.Proofs.Ytjghhgapacnpeaa
open Go.ChangeShapes Go.WideShapes Go.ChangeAt Go.RowKit

set_option maxRecDepth 100000 in
theorem wholePeaks_lifted (os : Os) (started : os.Started) (H : Type) (enc : TypeId × Value → H) :
    ReturnsInHanded {} Try.checked os 4 .any (Rows.wholePeaksSpec.pre6 enc Try.prog Try.f4 Rows.wholePeaksRow.domain false) (Rows.wholePeaksSpec.post enc Try.prog Try.f4 false true false false) := by
  refine returnsInHanded_of_change_sized (C := Try.checked) Try.own started (by kernel_rfl) Try.func4
    (ChangeSpec.witness6 (enc := enc) (C := Try.checked) false ⟨#[], #[.agg #[.int .u8 0, .int .u8 0, .int .u8 0], .slice none 0 0, .int .i8 0], []⟩ 8 (by kernel_rfl) (by kernel_rfl) (by kernel_rfl) (by kernel_rfl)) ?_
  intro W base args ds gs before hval0 hW _ hsz0 _
  have hsz : (DataW.weightsEach Try.prog (Try.f4.params.toList ++ Rows.wholePeaksSpec.plain.varTypes Try.prog) (ds ++ gs)).all (· ≤ reachBytes) = true := hsz0
  have hval : ∀ (j : Nat) t v, Try.f4.params[j]? = some t → args[j]? = some v → Value.okWide Try.prog W .any base t v := hval0
  have hW' := hW
  obtain ⟨p, q, hA0, hV, rfl, hfz, hnd⟩ := hW
  have hA : DataW.TrodAll enc Try.prog W 0 (fun _ => true) true Try.f4.params.toList args.toList ds p := hA0
  rw [Try.params4] at hA hval hsz
  obtain ⟨v0, vs0, d0, ds0, p0, q0, hargs, rfl, rfl, h0, r0⟩ := trodAll_cons hA
  obtain ⟨v1, vs1, d1, ds1, p1, q1, rfl, rfl, rfl, h1, r1⟩ := trodAll_cons r0
  obtain ⟨v2, vs2, d2, ds2, p2, q2, rfl, rfl, rfl, h2, r2⟩ := trodAll_cons r1
  obtain ⟨rfl, rfl, rfl⟩ := trodAll_nil r2
  obtain ⟨rfl, rfl⟩ := trodVars_none hV
  have ha : args = #[v0, v1, v2] := by cases args; simp_all
  subst ha
  have k0 := h0
  have k1 := h1
  have k2 := h2
  have c5 : Try.prog.cellsOf 5 = 1 := by kernel_rfl
  have c60 : Try.prog.cellsOf 44 = 3 := by kernel_rfl
  obtain ⟨a0, a1, a2, rfl, wa0, wa1, wa2⟩ := open_arr3 Try.underlying44 Try.underlying5 c5 c60 (hval 0 44 v0 rfl rfl) h0
  obtain ⟨b0, rfl, hb0⟩ := u8_of wa0
  obtain ⟨b1, rfl, hb1⟩ := u8_of wa1
  obtain ⟨b2, rfl, hb2⟩ := u8_of wa2
  obtain ⟨pn, pV, hl1, hl2, hl3⟩ := open_i16s (j := 1) (hval 1 45 v1 rfl rfl) h1 hsz (by kernel_rfl) rfl (fun x hx => hW'.lt x (by simp [hx]))
  obtain ⟨lev, rfl, wl⟩ := open_num Try.underlying22 (hval 2 22 v2 rfl rfl) h2
  have hlt := hW'.lt
  refine (peaks_law hb0 hb1 hb2 (i8_of wl) hl1 hl2 hl3).mono fun e W' ⟨he, hb⟩ => ?_
  subst he
  exact ⟨_, rfl, post_of_below (pa := p0 ++ (p1 ++ (p2 ++ []))) (pv := []) hW' (fun _ _ _ => trodAll_mk1 (shut_bool Try.underlying4 true)) (fun sp hsp => (trodAll_cons_mk (again Try.laidOut (by kernel_rfl) (of_decide_eq_true (by kernel_rfl)) k0 hb (fun x hx => hlt x (by simp [hx])) sp (fun x hx => hsp x (by simp [hx]))) (trodAll_cons_mk (again Try.laidOut (by kernel_rfl) (of_decide_eq_true (by kernel_rfl)) k1 hb (fun x hx => hlt x (by simp [hx])) sp (fun x hx => hsp x (by simp [hx]))) (trodAll_cons_mk (again Try.laidOut (by kernel_rfl) (of_decide_eq_true (by kernel_rfl)) k2 hb (fun x hx => hlt x (by simp [hx])) sp (fun x hx => hsp x (by simp [hx]))) (show DataW.TrodAll enc Try.prog W' 0 sp true [] [] [] [] from rfl))))) (fun _ _ => rfl) (by simp) hb (ok_one (by kernel_rfl) rfl (okWide_bool_mk Try.underlying4 true))⟩
theorem wholePeaks_holds : Rows.WholePeaksSaid :=
  OpenClaim.holds_of_wide 4 Try.f4 rfl rfl rfl rfl rfl rfl rfl ⟨rfl, rfl, rfl, rfl, rfl⟩ rfl rfl rfl rfl rfl (by kernel_rfl) Try.func4 (by kernel_rfl)
    (of_decide_eq_true (by kernel_rfl)) (by unfold Func.isWrapper; first | (rw [if_pos (by decide +kernel)]; kernel_rfl) | (rw [if_neg (by decide +kernel)]; exact ⟨rfl, rfl⟩))
    (fun os started H enc _ => wholePeaks_lifted os started H enc)
#print axioms wholePeaks_holds
end Go.Proofs.Ytjghhgapacnpeaa
