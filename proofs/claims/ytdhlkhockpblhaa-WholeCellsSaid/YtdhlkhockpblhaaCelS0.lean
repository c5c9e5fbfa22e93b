/-
  Signed permutations: memory while their matrix is filled.
-/
import Derived.Test.YtdhlkhockpblhaaCelP
import Derived.Test.YtdhlkhockpblhaaCelD
namespace Go.Proofs.Ytdhlkhockpblhaa.M
open Go.RowKit
attribute [local irreducible] World.setCell

set_option linter.unusedSimpArgs false
set_option linter.unusedVariables false

def prt (n k : Nat) : Mt := ⟨if 0 < k then (sgM n).p00 else 0, if 0 < k then (sgM n).p01 else 0, if 0 < k then (sgM n).p02 else 0, if 1 < k then (sgM n).p10 else 0, if 1 < k then (sgM n).p11 else 0, if 1 < k then (sgM n).p12 else 0, if 2 < k then (sgM n).p20 else 0, if 2 < k then (sgM n).p21 else 0, if 2 < k then (sgM n).p22 else 0⟩
structure QI (W0 : World) (B bp bm : Nat) (p0 p1 p2 : Int) (c : Mt) (wr : World) : Prop where
  below : Below B W0 wr
  zm : bm < wr.heap.size
  zp : bp < bm
  zB : B ≤ bp
  fz : ∀ o, wr.frozen? ⟨bm, o, none⟩ = false
  fr : ∀ o, wr.frozen? ⟨B, o, none⟩ = false
  r0 : wr.cell? ⟨B, 0, none⟩ = some (.int .i64 0)
  r1 : wr.cell? ⟨B, 1, none⟩ = some (.int .i64 0)
  r2 : wr.cell? ⟨B, 2, none⟩ = some (.int .i64 0)
  r3 : wr.cell? ⟨B, 3, none⟩ = some (.int .i64 0)
  r4 : wr.cell? ⟨B, 4, none⟩ = some (.int .i64 0)
  r5 : wr.cell? ⟨B, 5, none⟩ = some (.int .i64 0)
  r6 : wr.cell? ⟨B, 6, none⟩ = some (.int .i64 0)
  r7 : wr.cell? ⟨B, 7, none⟩ = some (.int .i64 0)
  r8 : wr.cell? ⟨B, 8, none⟩ = some (.int .i64 0)
  p0 : wr.cell? ⟨bp, 0, none⟩ = some (.int .i64 p0)
  p1 : wr.cell? ⟨bp, 1, none⟩ = some (.int .i64 p1)
  p2 : wr.cell? ⟨bp, 2, none⟩ = some (.int .i64 p2)
  c0 : wr.cell? ⟨bm, 0, none⟩ = some (.int .i64 c.p00)
  c1 : wr.cell? ⟨bm, 1, none⟩ = some (.int .i64 c.p01)
  c2 : wr.cell? ⟨bm, 2, none⟩ = some (.int .i64 c.p02)
  c3 : wr.cell? ⟨bm, 3, none⟩ = some (.int .i64 c.p10)
  c4 : wr.cell? ⟨bm, 4, none⟩ = some (.int .i64 c.p11)
  c5 : wr.cell? ⟨bm, 5, none⟩ = some (.int .i64 c.p12)
  c6 : wr.cell? ⟨bm, 6, none⟩ = some (.int .i64 c.p20)
  c7 : wr.cell? ⟨bm, 7, none⟩ = some (.int .i64 c.p21)
  c8 : wr.cell? ⟨bm, 8, none⟩ = some (.int .i64 c.p22)
theorem ret_v {v v' : Value} (h : v = v') : Ending.returned v = .returned v' := by rw [h]
theorem cell_v {o : Option Value} {a b : Int} (h : o = some (.int .i64 a)) (e : a = b) : o = some (.int .i64 b) := e ▸ h
end Go.Proofs.Ytdhlkhockpblhaa.M
