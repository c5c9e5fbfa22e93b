/-
  A place handed in is read: four whole numbers.
-/
import Derived.Test.YtpjljlnkfimbaaaFrame
namespace Go.Proofs.Ytpjljlnkfimbaaa
open Go.ChangeShapes Go.WideShapes Go.ChangeAt Go.RowKit


section
open Go.ChangeShapes Go.WideShapes Go.ChangeAt
variable {H : Type} {enc : TypeId × Value → H} {W : World}
theorem open_point {base b0 : Nat} {spare : Nat → Bool} {held : Bool} {r : Reach} {v : Value} {d : DataW H} {p : List MemPlace}
    (hv : Value.okWide Try.prog W r b0 25 v) (h : DataW.Trod enc Try.prog W base spare held 25 v d p) :
    ∃ m x y z : Int, v = .agg #[.int .i64 m, .int .i64 x, .int .i64 y, .int .i64 z] := by
  have c3 : Try.prog.cellsOf 3 = 1 := by kernel_rfl
  have c23 : Try.prog.cellsOf 23 = 3 := by kernel_rfl
  have c25 : Try.prog.cellsOf 25 = 4 := by kernel_rfl
  obtain ⟨cs, rfl, hsz⟩ := okWide_struct Try.underlying25 hv
  obtain ⟨l⟩ := cs
  obtain ⟨fuel, hf⟩ := h
  obtain ⟨xs, n, _, _, _, hxl, hi⟩ := DataW.trod_struct Try.underlying25 hf
  simp only [c25] at hsz
  match l, hsz with
  | [k0, k1, k2, k3], _ =>
    match xs, hxl with
    | [x0, x1], _ =>
      have g0 := hi 0 _ rfl
      have g1 := hi 1 _ rfl
      simp [Value.cells, c3, c23] at g0 g1
      obtain ⟨m, e0, _, _⟩ := DataW.trod_int Try.underlying3 g0
      simp at e0
      subst e0
      obtain ⟨ys, n', _, _, _, hyl, hj⟩ := DataW.trod_array Try.underlying23 g1
      match ys, hyl with
      | [y0, y1, y2], _ =>
        have j0 := hj 0 (by omega)
        have j1 := hj 1 (by omega)
        have j2 := hj 2 (by omega)
        rw [c3] at j0 j1 j2
        simp at j0 j1 j2
        obtain ⟨a, e1, _, _⟩ := DataW.trod_int Try.underlying3 j0
        obtain ⟨b, e2, _, _⟩ := DataW.trod_int Try.underlying3 j1
        obtain ⟨c, e3, _, _⟩ := DataW.trod_int Try.underlying3 j2
        simp at e1 e2 e3
        subst e1; subst e2; subst e3
        exact ⟨m, a, b, c, rfl⟩
end

end Go.Proofs.Ytpjljlnkfimbaaa
