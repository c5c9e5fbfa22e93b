/-
  The law WholeMatrices: memory while the powers grow.
-/
import Derived.Test.YtjghhgapacnpeaaMatH
import Derived.Test.YtjghhgapacnpeaaMatE
import Derived.Test.YtjghhgapacnpeaaMatQ
namespace Go.Proofs.Ytjghhgapacnpeaa
open Go.RowKit
attribute [local irreducible] World.setCell

set_option linter.unusedSimpArgs false
set_option linter.unusedVariables false

structure WI (W0 : World) (B bg bw : Nat) (g c : Mt) (wr : World) : Prop where
  below : Below B W0 wr
  zw : bw < wr.heap.size
  zg : bg < bw
  fz : ∀ o, wr.frozen? ⟨bw, o, none⟩ = false
  g0 : wr.cell? ⟨bg, 0, none⟩ = some (.int .i64 g.p00)
  c0 : wr.cell? ⟨bw, 0, none⟩ = some (.int .i64 c.p00)
  g1 : wr.cell? ⟨bg, 1, none⟩ = some (.int .i64 g.p01)
  c1 : wr.cell? ⟨bw, 1, none⟩ = some (.int .i64 c.p01)
  g2 : wr.cell? ⟨bg, 2, none⟩ = some (.int .i64 g.p02)
  c2 : wr.cell? ⟨bw, 2, none⟩ = some (.int .i64 c.p02)
  g3 : wr.cell? ⟨bg, 3, none⟩ = some (.int .i64 g.p10)
  c3 : wr.cell? ⟨bw, 3, none⟩ = some (.int .i64 c.p10)
  g4 : wr.cell? ⟨bg, 4, none⟩ = some (.int .i64 g.p11)
  c4 : wr.cell? ⟨bw, 4, none⟩ = some (.int .i64 c.p11)
  g5 : wr.cell? ⟨bg, 5, none⟩ = some (.int .i64 g.p12)
  c5 : wr.cell? ⟨bw, 5, none⟩ = some (.int .i64 c.p12)
  g6 : wr.cell? ⟨bg, 6, none⟩ = some (.int .i64 g.p20)
  c6 : wr.cell? ⟨bw, 6, none⟩ = some (.int .i64 c.p20)
  g7 : wr.cell? ⟨bg, 7, none⟩ = some (.int .i64 g.p21)
  c7 : wr.cell? ⟨bw, 7, none⟩ = some (.int .i64 c.p21)
  g8 : wr.cell? ⟨bg, 8, none⟩ = some (.int .i64 g.p22)
  c8 : wr.cell? ⟨bw, 8, none⟩ = some (.int .i64 c.p22)
theorem pwG_step (g : Mt) (J : Nat) (h : 1 ≤ J) : pwG g (J + 1 - 1) = mulW (pwG g (J - 1)) g := by
  obtain ⟨j, rfl⟩ : ∃ j, J = j + 1 := ⟨J - 1, by omega⟩
  rfl
end Go.Proofs.Ytjghhgapacnpeaa
