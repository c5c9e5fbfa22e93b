/-
  What the rows share: arguments opened, the state behind the call.
-/
import Derived.Test.YtdhlkhockpblhaaRows
import Derived.ProofKit
import Derived.OpenShut
import Derived.ChangeSame
import Derived.Below
namespace Go.Proofs.Ytdhlkhockpblhaa
open Go.RowKit

set_option maxRecDepth 100000

section
open Go.ChangeShapes Go.WideShapes Go.ChangeAt
variable {H : Type} {enc : TypeId × Value → H} {W : World}
theorem open_num {t : TypeId} {k : IntKind} {base b0 : Nat} {spare : Nat → Bool} {held : Bool} {r : Reach} {v : Value} {d : DataW H} {p : List MemPlace} (ht : Try.prog.underlying t = some (.int k))
    (hv : Value.okWide Try.prog W r b0 t v) (h : DataW.Trod enc Try.prog W base spare held t v d p) : ∃ a : Int, v = .int k a ∧ (Lit.int k a).wf = true := by
  obtain ⟨n, h1, _, _, h4⟩ := open_int ht hv h
  exact ⟨n, h1, h4⟩
theorem open_arr3 {t e : TypeId} {k : IntKind} {base b0 : Nat} {spare : Nat → Bool} {held : Bool} {r : Reach} {v : Value} {d : DataW H} {p : List MemPlace} (ht : Try.prog.underlying t = some (.array 3 e)) (he : Try.prog.underlying e = some (.int k)) (hc : Try.prog.cellsOf e = 1) (hC : Try.prog.cellsOf t = 3)
    (hv : Value.okWide Try.prog W r b0 t v) (h : DataW.Trod enc Try.prog W base spare held t v d p) :
    ∃ a b c : Int, v = .agg #[.int k a, .int k b, .int k c] ∧ ((Lit.int k a).wf = true ∧ (Lit.int k b).wf = true ∧ (Lit.int k c).wf = true) := by
  simp only [Value.okWide, ht] at hv
  obtain ⟨cs, rfl, hsz, _⟩ := hv
  obtain ⟨l⟩ := cs
  obtain ⟨fuel, hf⟩ := h
  obtain ⟨xs, m, _, _, _, hxl, hi⟩ := DataW.trod_array ht hf
  simp only [hC] at hsz
  match l, hsz with
  | [c0, c1, c2], _ =>
    match xs, hxl with
    | [x0, x1, x2], _ =>
      have g0 := hi 0 (by omega)
      have g1 := hi 1 (by omega)
      have g2 := hi 2 (by omega)
      rw [hc] at g0 g1 g2
      simp [Value.cells] at g0 g1 g2
      obtain ⟨n0, e0, _, w0⟩ := DataW.trod_int he g0
      obtain ⟨n1, e1, _, w1⟩ := DataW.trod_int he g1
      obtain ⟨n2, e2, _, w2⟩ := DataW.trod_int he g2
      simp at e0 e1 e2
      subst e0; subst e1; subst e2
      exact ⟨n0, n1, n2, rfl, w0, w1, w2⟩
end

section
open Go.WideShapes Go.ChangeShapes
variable {H : Type} {enc : TypeId × Value → H} {P : Program}
theorem post_of_below {f : Func} {s : ChangeSpec} {apart fresh handsOn again : Bool} {W W' : World} {args : Array Value} {v : Value} {ds gs : List (DataW H)} {before pa pv : List MemPlace}
    (hW : DataW.Whole enc P f.params.toList s.vars apart W args.toList ds gs before)
    (hres : ∀ (b : Nat) (sp : Nat → Bool) (hd : Bool), DataW.TrodAll enc P W' b sp hd f.resultTypes.toList (v.resultList f.resultTypes.size) (s.fn H (ds ++ gs)).results [])
    (hargs : ∀ sp : Nat → Bool, (∀ p ∈ before, sp p.block = true) → DataW.TrodAll enc P W' 0 sp true f.params.toList args.toList (s.fn H (ds ++ gs)).args pa)
    (hvars : ∀ sp : Nat → Bool, (∀ p ∈ before, sp p.block = true) → DataW.TrodVars enc P W' sp s.vars (s.fn H (ds ++ gs)).vars pv)
    (hps : before = pa ++ pv) (hb : Below W.heap.size W W')
    (hok : ∀ (j : Nat) (t : TypeId) (r : Value), f.resultTypes[j]? = some t → (v.resultList f.resultTypes.size)[j]? = some r → Value.okWide P W' .any 0 t r) :
    s.post enc P f apart fresh handsOn again W args v W' := by
  have hlt : ∀ p ∈ before, p.block < W.heap.size := fun p hp => hW.lt p hp
  have hold : ∀ p ∈ before, (fun b => decide (b < W.heap.size)) p.block = true := fun p hp => by simpa using hlt p hp
  refine ⟨ds, gs, before, [], pa, pv, hW, hres _ _ _, hargs _ hold, hvars _ hold, World.keptBut_mono (fun p hp => ⟨hp, ?_⟩) (hb.frame (· ∈ before)), fun _ => ?_⟩
  · rw [hps, List.mem_append] at hp
    exact Or.inr hp
  · obtain ⟨_, _, _, _, _, hz, hn⟩ := hW
    refine ⟨hok, _, _, ([] ++ pa) ++ pv, ⟨[] ++ pa, pv, trodAll_append (hargs _ (fun _ _ => rfl)) (hres _ _ _), hvars _ (fun _ _ => rfl), rfl, ?_, ?_⟩, ?_⟩
    · intro b off hp
      have hin : MemPlace.cell b off ∈ before := by rw [hps]; simpa using hp
      rw [hb.frozen (hlt _ hin)]
      exact hz b off hin
    · intro ha
      have := hn ha
      rw [hps] at this
      simpa using this
    · intro p hp _
      rw [hps]
      simpa using hp
/-- An argument reads behind the call as it did, whatever is called spare there. -/
theorem again {t : TypeId} (hl : laidOutB P = true) (hr : P.readableRec t = true) (hrow : t < P.types.size) {W W' : World} {v : Value} {d : DataW H} {ps : List MemPlace}
    (h : DataW.Trod enc P W 0 (fun _ => true) true t v d ps) (hb : Below W.heap.size W W') (hlt : ∀ x ∈ ps, x.block < W.heap.size) (sp : Nat → Bool) (hsp : ∀ x ∈ ps, sp x.block = true) :
    DataW.Trod enc P W' 0 sp true t v d ps :=
  WideElems.Trod_stays hl hr hrow h (fun x hx => hb.same (hlt x hx)) (fun x hx => hsp x hx)
end

section
open Go.ChangeShapes Go.WideShapes Go.ChangeAt
variable {H : Type} {enc : TypeId × Value → H} {W : World}
theorem open_met {base b0 : Nat} {spare : Nat → Bool} {held : Bool} {r : Reach} {v : Value} {d : DataW H} {p : List MemPlace}
    (hv : Value.okWide Try.prog W r b0 23 v) (h : DataW.Trod enc Try.prog W base spare held 23 v d p) :
    ∃ a0 a1 a2 a3 a4 a5 : Int, v = .agg #[.int .i64 a0, .int .i64 a1, .int .i64 a2, .int .i64 a3, .int .i64 a4, .int .i64 a5] ∧ ((Lit.int .i64 a0).wf = true ∧ (Lit.int .i64 a1).wf = true ∧ (Lit.int .i64 a2).wf = true ∧ (Lit.int .i64 a3).wf = true ∧ (Lit.int .i64 a4).wf = true ∧ (Lit.int .i64 a5).wf = true) := by
  have c3 : Try.prog.cellsOf 3 = 1 := by kernel_rfl
  have c23 : Try.prog.cellsOf 23 = 6 := by kernel_rfl
  obtain ⟨cs, rfl, hsz⟩ := okWide_struct Try.underlying23 hv
  obtain ⟨l⟩ := cs
  obtain ⟨fuel, hf⟩ := h
  obtain ⟨xs, n, _, _, _, hxl, hi⟩ := DataW.trod_struct Try.underlying23 hf
  simp only [c23] at hsz
  match l, hsz with
  | [k0, k1, k2, k3, k4, k5], _ =>
    match xs, hxl with
    | [x0, x1, x2, x3, x4, x5], _ =>
      have g0 := hi 0 _ rfl
      simp [Value.cells, c3] at g0
      obtain ⟨m0, e0, _, w0⟩ := DataW.trod_int Try.underlying3 g0
      simp at e0
      subst e0
      have g1 := hi 1 _ rfl
      simp [Value.cells, c3] at g1
      obtain ⟨m1, e1, _, w1⟩ := DataW.trod_int Try.underlying3 g1
      simp at e1
      subst e1
      have g2 := hi 2 _ rfl
      simp [Value.cells, c3] at g2
      obtain ⟨m2, e2, _, w2⟩ := DataW.trod_int Try.underlying3 g2
      simp at e2
      subst e2
      have g3 := hi 3 _ rfl
      simp [Value.cells, c3] at g3
      obtain ⟨m3, e3, _, w3⟩ := DataW.trod_int Try.underlying3 g3
      simp at e3
      subst e3
      have g4 := hi 4 _ rfl
      simp [Value.cells, c3] at g4
      obtain ⟨m4, e4, _, w4⟩ := DataW.trod_int Try.underlying3 g4
      simp at e4
      subst e4
      have g5 := hi 5 _ rfl
      simp [Value.cells, c3] at g5
      obtain ⟨m5, e5, _, w5⟩ := DataW.trod_int Try.underlying3 g5
      simp at e5
      subst e5
      exact ⟨m0, m1, m2, m3, m4, m5, rfl, w0, w1, w2, w3, w4, w5⟩
end

theorem Try.own : ownKnob Try.prog.godebug = none := by kernel_rfl
theorem Try.laidOut : laidOutB Try.prog = true := by kernel_rfl
end Go.Proofs.Ytdhlkhockpblhaa
namespace Go.Proofs.Ytdhlkhockpblhaa
open Go.RowKit

set_option maxRecDepth 100000

section
open Go.ChangeShapes Go.WideShapes Go.ChangeAt
variable {H : Type} {enc : TypeId × Value → H} {W : World}
theorem open_arr9 {t e : TypeId} {k : IntKind} {base b0 : Nat} {spare : Nat → Bool} {held : Bool} {r : Reach} {v : Value} {d : DataW H} {p : List MemPlace} (ht : Try.prog.underlying t = some (.array 9 e)) (he : Try.prog.underlying e = some (.int k)) (hc : Try.prog.cellsOf e = 1) (hC : Try.prog.cellsOf t = 9)
    (hv : Value.okWide Try.prog W r b0 t v) (h : DataW.Trod enc Try.prog W base spare held t v d p) :
    ∃ a0 a1 a2 a3 a4 a5 a6 a7 a8 : Int, v = .agg #[.int k a0, .int k a1, .int k a2, .int k a3, .int k a4, .int k a5, .int k a6, .int k a7, .int k a8] ∧ ((Lit.int k a0).wf = true ∧ (Lit.int k a1).wf = true ∧ (Lit.int k a2).wf = true ∧ (Lit.int k a3).wf = true ∧ (Lit.int k a4).wf = true ∧ (Lit.int k a5).wf = true ∧ (Lit.int k a6).wf = true ∧ (Lit.int k a7).wf = true ∧ (Lit.int k a8).wf = true) := by
  simp only [Value.okWide, ht] at hv
  obtain ⟨cs, rfl, hsz, _⟩ := hv
  obtain ⟨l⟩ := cs
  obtain ⟨fuel, hf⟩ := h
  obtain ⟨xs, m, _, _, _, hxl, hi⟩ := DataW.trod_array ht hf
  simp only [hC] at hsz
  match l, hsz with
  | [c0, c1, c2, c3, c4, c5, c6, c7, c8], _ =>
    match xs, hxl with
    | [x0, x1, x2, x3, x4, x5, x6, x7, x8], _ =>
      have g0 := hi 0 (by omega)
      rw [hc] at g0
      simp [Value.cells] at g0
      obtain ⟨n0, e0, _, w0⟩ := DataW.trod_int he g0
      simp at e0
      subst e0
      have g1 := hi 1 (by omega)
      rw [hc] at g1
      simp [Value.cells] at g1
      obtain ⟨n1, e1, _, w1⟩ := DataW.trod_int he g1
      simp at e1
      subst e1
      have g2 := hi 2 (by omega)
      rw [hc] at g2
      simp [Value.cells] at g2
      obtain ⟨n2, e2, _, w2⟩ := DataW.trod_int he g2
      simp at e2
      subst e2
      have g3 := hi 3 (by omega)
      rw [hc] at g3
      simp [Value.cells] at g3
      obtain ⟨n3, e3, _, w3⟩ := DataW.trod_int he g3
      simp at e3
      subst e3
      have g4 := hi 4 (by omega)
      rw [hc] at g4
      simp [Value.cells] at g4
      obtain ⟨n4, e4, _, w4⟩ := DataW.trod_int he g4
      simp at e4
      subst e4
      have g5 := hi 5 (by omega)
      rw [hc] at g5
      simp [Value.cells] at g5
      obtain ⟨n5, e5, _, w5⟩ := DataW.trod_int he g5
      simp at e5
      subst e5
      have g6 := hi 6 (by omega)
      rw [hc] at g6
      simp [Value.cells] at g6
      obtain ⟨n6, e6, _, w6⟩ := DataW.trod_int he g6
      simp at e6
      subst e6
      have g7 := hi 7 (by omega)
      rw [hc] at g7
      simp [Value.cells] at g7
      obtain ⟨n7, e7, _, w7⟩ := DataW.trod_int he g7
      simp at e7
      subst e7
      have g8 := hi 8 (by omega)
      rw [hc] at g8
      simp [Value.cells] at g8
      obtain ⟨n8, e8, _, w8⟩ := DataW.trod_int he g8
      simp at e8
      subst e8
      exact ⟨n0, n1, n2, n3, n4, n5, n6, n7, n8, rfl, w0, w1, w2, w3, w4, w5, w6, w7, w8⟩
end
theorem bounds_i8 {a : Int} (h : (Lit.int .i8 a).wf = true) : -128 ≤ a ∧ a ≤ 127 := by
  have h1 : IntKind.i8.min = -128 := rfl
  have h2 : IntKind.i8.max = 127 := rfl
  simp only [Lit.wf, Bool.and_eq_true, decide_eq_true_eq] at h
  omega
theorem bounds_u8 {a : Int} (h : (Lit.int .u8 a).wf = true) : 0 ≤ a ∧ a ≤ 255 := by
  have h1 : IntKind.u8.min = 0 := rfl
  have h2 : IntKind.u8.max = 255 := rfl
  simp only [Lit.wf, Bool.and_eq_true, decide_eq_true_eq] at h
  omega

end Go.Proofs.Ytdhlkhockpblhaa
