/-
  Vectors of bytes opened.
-/
import Derived.Test.YtdhlkhockpblhaaFrame
namespace Go.Proofs.Ytdhlkhockpblhaa
open Go.RowKit

set_option maxRecDepth 100000

section
open Go.ChangeShapes Go.WideShapes Go.ChangeAt
variable {H : Type} {enc : TypeId × Value → H} {W : World}
theorem open_i8 {base b0 : Nat} {spare : Nat → Bool} {held : Bool} {r : Reach} {v : Value} {d : DataW H} {p : List MemPlace}
    (hv : Value.okWide Try.prog W r b0 57 v) (h : DataW.Trod enc Try.prog W base spare held 57 v d p) :
    ∃ a b c : Int, v = .agg #[.int .i8 a, .int .i8 b, .int .i8 c] ∧ (-128 ≤ a ∧ a ≤ 127) ∧ (-128 ≤ b ∧ b ≤ 127) ∧ (-128 ≤ c ∧ c ≤ 127) := by
  have hw : ∀ {a : Int}, (Lit.int .i8 a).wf = true → -128 ≤ a ∧ a ≤ 127 := by
    intro a h
    have h1 : IntKind.i8.min = -128 := rfl
    have h2 : IntKind.i8.max = 127 := rfl
    simp only [Lit.wf, Bool.and_eq_true, decide_eq_true_eq] at h
    omega
  have c56 : Try.prog.cellsOf 56 = 1 := by kernel_rfl
  have c57 : Try.prog.cellsOf 57 = 3 := by kernel_rfl
  simp only [Value.okWide, Try.underlying57] at hv
  obtain ⟨cs, rfl, hsz, _⟩ := hv
  obtain ⟨l⟩ := cs
  obtain ⟨fuel, hf⟩ := h
  obtain ⟨xs, m, _, _, _, hxl, hi⟩ := DataW.trod_array Try.underlying57 hf
  simp only [c57] at hsz
  match l, hsz with
  | [k0, k1, k2], _ =>
    match xs, hxl with
    | [x0, x1, x2], _ =>
      have g0 := hi 0 (by omega)
      have g1 := hi 1 (by omega)
      have g2 := hi 2 (by omega)
      rw [c56] at g0 g1 g2
      simp [Value.cells] at g0 g1 g2
      obtain ⟨n0, e0, _, w0⟩ := DataW.trod_int Try.underlying56 g0
      obtain ⟨n1, e1, _, w1⟩ := DataW.trod_int Try.underlying56 g1
      obtain ⟨n2, e2, _, w2⟩ := DataW.trod_int Try.underlying56 g2
      simp at e0 e1 e2
      subst e0; subst e1; subst e2
      exact ⟨n0, n1, n2, rfl, hw w0, hw w1, hw w2⟩
end

end Go.Proofs.Ytdhlkhockpblhaa
