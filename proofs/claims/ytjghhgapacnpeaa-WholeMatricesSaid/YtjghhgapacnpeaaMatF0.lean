/-
  Powers of matrices modulo three primes.
-/
import Derived.Test.YtjghhgapacnpeaaMatD
import Derived.Test.YtjghhgapacnpeaaMatP
namespace Go.Proofs.Ytjghhgapacnpeaa
open Go.RowKit
attribute [local irreducible] World.setCell

set_option linter.unusedSimpArgs false
set_option linter.unusedVariables false

set_option maxHeartbeats 400000 in
theorem identity_any  (w : World) :
    Calls Try.prog 10 #[] w fun e w' => e = .returned (.agg #[.int .i64 1, .int .i64 0, .int .i64 0, .int .i64 0, .int .i64 1, .int .i64 0, .int .i64 0, .int .i64 0, .int .i64 1]) ∧ Below w.heap.size w w' := by
  go_enter Try.func10, Try.ntmps10
  go_wp2
  refine bodyPost_ret (v := .agg #[.int .i64 1, .int .i64 0, .int .i64 0, .int .i64 0, .int .i64 1, .int .i64 0, .int .i64 0, .int .i64 0, .int .i64 1]) (by simp [results, Try.results10, go_sem, wrap_add_l, wrap_add_r, wrap_sub_l, wrap_sub_r, wrap_mul_l, wrap_mul_r, wrap_neg, wrap_wrap, wrap3, *]) rfl ⟨rfl, ?_⟩
  repeat (first | exact Below.refl _ _ | assumption | exact Below.alloc (Below.refl _ _) (Nat.le_refl _) _ | refine Below.setCell ?_ (by first | (simp; done) | (simp; omega) | omega) _ | refine below_drewN ?_ _ | refine Below.alloc ?_ (by first | (simp; done) | (simp; omega) | omega) _ | refine Below.trans ?_ (Below.mono (by assumption) (by first | (simp; done) | (simp; omega) | omega)))

/-- Memory while a power grows: the matrix, the primes, the power. -/
structure PI (W0 : World) (B bm bs bc : Nat) (m c : Mt) (wr : World) : Prop where
  below : Below B W0 wr
  zc : bc < wr.heap.size
  zm : bm < bs
  zs : bs < bc
  fz : ∀ o, wr.frozen? ⟨bc, o, none⟩ = false
  a0 : wr.cell? ⟨bm, 0, none⟩ = some (.int .i64 m.p00)
  c0 : wr.cell? ⟨bc, 0, none⟩ = some (.int .i64 c.p00)
  a1 : wr.cell? ⟨bm, 1, none⟩ = some (.int .i64 m.p01)
  c1 : wr.cell? ⟨bc, 1, none⟩ = some (.int .i64 c.p01)
  a2 : wr.cell? ⟨bm, 2, none⟩ = some (.int .i64 m.p02)
  c2 : wr.cell? ⟨bc, 2, none⟩ = some (.int .i64 c.p02)
  a3 : wr.cell? ⟨bm, 3, none⟩ = some (.int .i64 m.p10)
  c3 : wr.cell? ⟨bc, 3, none⟩ = some (.int .i64 c.p10)
  a4 : wr.cell? ⟨bm, 4, none⟩ = some (.int .i64 m.p11)
  c4 : wr.cell? ⟨bc, 4, none⟩ = some (.int .i64 c.p11)
  a5 : wr.cell? ⟨bm, 5, none⟩ = some (.int .i64 m.p12)
  c5 : wr.cell? ⟨bc, 5, none⟩ = some (.int .i64 c.p12)
  a6 : wr.cell? ⟨bm, 6, none⟩ = some (.int .i64 m.p20)
  c6 : wr.cell? ⟨bc, 6, none⟩ = some (.int .i64 c.p20)
  a7 : wr.cell? ⟨bm, 7, none⟩ = some (.int .i64 m.p21)
  c7 : wr.cell? ⟨bc, 7, none⟩ = some (.int .i64 c.p21)
  a8 : wr.cell? ⟨bm, 8, none⟩ = some (.int .i64 m.p22)
  c8 : wr.cell? ⟨bc, 8, none⟩ = some (.int .i64 c.p22)
  s0 : wr.cell? ⟨bs, 0, none⟩ = some (.int .i64 2147483647)
  s1 : wr.cell? ⟨bs, 1, none⟩ = some (.int .i64 2147483629)
  s2 : wr.cell? ⟨bs, 2, none⟩ = some (.int .i64 2147483587)
theorem beq_one (x : Mt) : ((x.p00 == 1 && (x.p01 == 0 && x.p02 == 0)) && ((x.p10 == 0 && (x.p11 == 1 && x.p12 == 0)) && (x.p20 == 0 && (x.p21 == 0 && x.p22 == 1)))) = decide (x = one) := by
  obtain ⟨a, b, c, d, e, f, g, h, i⟩ := x
  rw [Bool.eq_iff_iff]
  simp [one, and_assoc]
end Go.Proofs.Ytjghhgapacnpeaa
