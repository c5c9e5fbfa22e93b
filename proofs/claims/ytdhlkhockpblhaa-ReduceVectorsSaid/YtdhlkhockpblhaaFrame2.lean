/-
  Matrices opened.
-/
import Derived.Test.YtdhlkhockpblhaaFrame
namespace Go.Proofs.Ytdhlkhockpblhaa
open Go.RowKit

set_option maxRecDepth 100000

section
open Go.ChangeShapes Go.WideShapes Go.ChangeAt
variable {H : Type} {enc : TypeId × Value → H} {W : World}
theorem open_mat {base b0 : Nat} {spare : Nat → Bool} {held : Bool} {r : Reach} {v : Value} {d : DataW H} {p : List MemPlace}
    (hv : Value.okWide Try.prog W r b0 26 v) (h : DataW.Trod enc Try.prog W base spare held 26 v d p) :
    ∃ a0 a1 a2 a3 a4 a5 a6 a7 a8 : Int, v = .agg #[.int .i64 a0, .int .i64 a1, .int .i64 a2, .int .i64 a3, .int .i64 a4, .int .i64 a5, .int .i64 a6, .int .i64 a7, .int .i64 a8] := by
  have c3 : Try.prog.cellsOf 3 = 1 := by kernel_rfl
  have c24 : Try.prog.cellsOf 24 = 3 := by kernel_rfl
  have c26 : Try.prog.cellsOf 26 = 9 := by kernel_rfl
  simp only [Value.okWide, Try.underlying26] at hv
  obtain ⟨cs, rfl, hsz, _⟩ := hv
  obtain ⟨l⟩ := cs
  obtain ⟨fuel, hf⟩ := h
  obtain ⟨xs, m, _, _, _, hxl, hi⟩ := DataW.trod_array Try.underlying26 hf
  simp only [c26] at hsz
  match l, hsz with
  | [k0, k1, k2, k3, k4, k5, k6, k7, k8], _ =>
    match xs, hxl with
    | [x0, x1, x2], _ =>
      have g0 := hi 0 (by omega)
      rw [c24] at g0
      simp [Value.cells] at g0
      obtain ⟨ys0, m0, _, _, _, hyl0, hj0⟩ := DataW.trod_array Try.underlying24 g0
      match ys0, hyl0 with
      | [y00, y01, y02], _ =>
      have j00 := hj0 0 (by omega)
      rw [c3] at j00
      simp at j00
      obtain ⟨n00, e00, _, _⟩ := DataW.trod_int Try.underlying3 j00
      simp at e00
      subst e00
      have j01 := hj0 1 (by omega)
      rw [c3] at j01
      simp at j01
      obtain ⟨n01, e01, _, _⟩ := DataW.trod_int Try.underlying3 j01
      simp at e01
      subst e01
      have j02 := hj0 2 (by omega)
      rw [c3] at j02
      simp at j02
      obtain ⟨n02, e02, _, _⟩ := DataW.trod_int Try.underlying3 j02
      simp at e02
      subst e02
      have g1 := hi 1 (by omega)
      rw [c24] at g1
      simp [Value.cells] at g1
      obtain ⟨ys1, m1, _, _, _, hyl1, hj1⟩ := DataW.trod_array Try.underlying24 g1
      match ys1, hyl1 with
      | [y10, y11, y12], _ =>
      have j10 := hj1 0 (by omega)
      rw [c3] at j10
      simp at j10
      obtain ⟨n10, e10, _, _⟩ := DataW.trod_int Try.underlying3 j10
      simp at e10
      subst e10
      have j11 := hj1 1 (by omega)
      rw [c3] at j11
      simp at j11
      obtain ⟨n11, e11, _, _⟩ := DataW.trod_int Try.underlying3 j11
      simp at e11
      subst e11
      have j12 := hj1 2 (by omega)
      rw [c3] at j12
      simp at j12
      obtain ⟨n12, e12, _, _⟩ := DataW.trod_int Try.underlying3 j12
      simp at e12
      subst e12
      have g2 := hi 2 (by omega)
      rw [c24] at g2
      simp [Value.cells] at g2
      obtain ⟨ys2, m2, _, _, _, hyl2, hj2⟩ := DataW.trod_array Try.underlying24 g2
      match ys2, hyl2 with
      | [y20, y21, y22], _ =>
      have j20 := hj2 0 (by omega)
      rw [c3] at j20
      simp at j20
      obtain ⟨n20, e20, _, _⟩ := DataW.trod_int Try.underlying3 j20
      simp at e20
      subst e20
      have j21 := hj2 1 (by omega)
      rw [c3] at j21
      simp at j21
      obtain ⟨n21, e21, _, _⟩ := DataW.trod_int Try.underlying3 j21
      simp at e21
      subst e21
      have j22 := hj2 2 (by omega)
      rw [c3] at j22
      simp at j22
      obtain ⟨n22, e22, _, _⟩ := DataW.trod_int Try.underlying3 j22
      simp at e22
      subst e22
      exact ⟨n00, n01, n02, n10, n11, n12, n20, n21, n22, rfl⟩
end

end Go.Proofs.Ytdhlkhockpblhaa
