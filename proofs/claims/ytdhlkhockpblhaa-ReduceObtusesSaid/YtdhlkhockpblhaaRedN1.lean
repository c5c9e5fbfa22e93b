/-
  DocObtuse: what it returns.
-/
import Derived.Test.YtdhlkhockpblhaaRedS
import Derived.Test.YtdhlkhockpblhaaRedZ2
import Derived.Test.YtdhlkhockpblhaaRedX
namespace Go.Proofs.Ytdhlkhockpblhaa
open Go.RowKit
attribute [local irreducible] World.setCell

set_option linter.unusedSimpArgs false
set_option linter.unusedVariables false

/-- A walk's world forgotten but for what S says of it. -/
theorem wp_abs {P : Program} {c : Code} {Q : Exit → Act → World → Prop} {a : Act} {w : World} (S : World → Prop) (h : S w) (k : ∀ w', S w' → c.wp P Q a w') : c.wp P Q a w := k w h
/-- A world that keeps all that lay in Wc. -/
theorem sb_of {Wc w' : World} (h : Below Wc.heap.size Wc w') : Below Wc.heap.size Wc w' ∧ ∀ b o, b < Wc.heap.size → w'.cell? ⟨b, o, none⟩ = Wc.cell? ⟨b, o, none⟩ := ⟨h, fun b o hb => h.cell (p := ⟨b, o, none⟩) hb⟩
theorem sb_alloc {Wc w' : World} (h : Below Wc.heap.size Wc w') (o : Obj) : Below Wc.heap.size Wc (w'.alloc o) ∧ ∀ b o', b < Wc.heap.size → (w'.alloc o).cell? ⟨b, o', none⟩ = Wc.cell? ⟨b, o', none⟩ := sb_of (h.alloc h.size o)
theorem sb_set {Wc w' : World} (h : Below Wc.heap.size Wc w') (p : Addr) (v : Value) (hp : Wc.heap.size ≤ p.block) : Below Wc.heap.size Wc (w'.setCell p v) ∧ ∀ b o', b < Wc.heap.size → (w'.setCell p v).cell? ⟨b, o', none⟩ = Wc.cell? ⟨b, o', none⟩ := sb_of (h.setCell hp v)
theorem sb_call {Wc w' w'' : World} (h : Below Wc.heap.size Wc w') (hb : Below w'.heap.size w' w'') : Below Wc.heap.size Wc w'' ∧ ∀ b o, b < Wc.heap.size → w''.cell? ⟨b, o, none⟩ = Wc.cell? ⟨b, o, none⟩ := sb_of (h.trans (hb.mono h.size))

def lf (m : Met) : Nat → Int
  | 0 => wrap64 (m.aa)
  | 1 => wrap64 (m.ab)
  | 2 => wrap64 (m.ac)
  | 3 => wrap64 ((-1) * m.aa + (-1) * m.ac + (-1) * m.ab)
  | 4 => wrap64 (m.ab)
  | 5 => wrap64 (m.bb)
  | 6 => wrap64 (m.bc)
  | 7 => wrap64 ((-1) * m.bb + (-1) * m.bc + (-1) * m.ab)
  | 8 => wrap64 (m.ac)
  | 9 => wrap64 (m.bc)
  | 10 => wrap64 (m.cc)
  | 11 => wrap64 ((-1) * m.cc + (-1) * m.bc + (-1) * m.ac)
  | 12 => wrap64 ((-1) * m.aa + (-1) * m.ac + (-1) * m.ab)
  | 13 => wrap64 ((-1) * m.bb + (-1) * m.bc + (-1) * m.ab)
  | 14 => wrap64 ((-1) * m.cc + (-1) * m.bc + (-1) * m.ac)
  | 15 => wrap64 (m.aa + m.bb + m.cc + 2 * m.bc + 2 * m.ac + 2 * m.ab)
  | _ => 0
theorem rstep_lf (m : Met) (w : World) : Calls Try.prog 41 #[.agg #[.int .i64 (lf m 0), .int .i64 (lf m 1), .int .i64 (lf m 2), .int .i64 (lf m 3), .int .i64 (lf m 4), .int .i64 (lf m 5), .int .i64 (lf m 6), .int .i64 (lf m 7), .int .i64 (lf m 8), .int .i64 (lf m 9), .int .i64 (lf m 10), .int .i64 (lf m 11), .int .i64 (lf m 12), .int .i64 (lf m 13), .int .i64 (lf m 14), .int .i64 (lf m 15)]] w fun e w' => e = .returned (.tuple #[.agg #[.int .i64 (lf (nx (pick m) m) 0), .int .i64 (lf (nx (pick m) m) 1), .int .i64 (lf (nx (pick m) m) 2), .int .i64 (lf (nx (pick m) m) 3), .int .i64 (lf (nx (pick m) m) 4), .int .i64 (lf (nx (pick m) m) 5), .int .i64 (lf (nx (pick m) m) 6), .int .i64 (lf (nx (pick m) m) 7), .int .i64 (lf (nx (pick m) m) 8), .int .i64 (lf (nx (pick m) m) 9), .int .i64 (lf (nx (pick m) m) 10), .int .i64 (lf (nx (pick m) m) 11), .int .i64 (lf (nx (pick m) m) 12), .int .i64 (lf (nx (pick m) m) 13), .int .i64 (lf (nx (pick m) m) 14), .int .i64 (lf (nx (pick m) m) 15)], .agg #[.int .i64 (qk (pick m)).p00, .int .i64 (qk (pick m)).p01, .int .i64 (qk (pick m)).p02, .int .i64 (qk (pick m)).p10, .int .i64 (qk (pick m)).p11, .int .i64 (qk (pick m)).p12, .int .i64 (qk (pick m)).p20, .int .i64 (qk (pick m)).p21, .int .i64 (qk (pick m)).p22], .bool (decide (pick m < 6))]) ∧ Below w.heap.size w w' := rstep_all m w
theorem laid_lf (m : Met) (w : World) : Calls Try.prog 42 #[.agg #[.int .i64 m.aa, .int .i64 m.bb, .int .i64 m.cc, .int .i64 m.bc, .int .i64 m.ac, .int .i64 m.ab]] w fun e w' => e = .returned (.agg #[.int .i64 (lf m 0), .int .i64 (lf m 1), .int .i64 (lf m 2), .int .i64 (lf m 3), .int .i64 (lf m 4), .int .i64 (lf m 5), .int .i64 (lf m 6), .int .i64 (lf m 7), .int .i64 (lf m 8), .int .i64 (lf m 9), .int .i64 (lf m 10), .int .i64 (lf m 11), .int .i64 (lf m 12), .int .i64 (lf m 13), .int .i64 (lf m 14), .int .i64 (lf m 15)]) ∧ Below w.heap.size w w' := laid_M m w
theorem rmet_lf (m : Met) (h : wrap64 m.aa = m.aa ∧ wrap64 m.bb = m.bb ∧ wrap64 m.cc = m.cc ∧ wrap64 m.bc = m.bc ∧ wrap64 m.ac = m.ac ∧ wrap64 m.ab = m.ab) (w : World) : Calls Try.prog 43 #[.agg #[.int .i64 (lf m 0), .int .i64 (lf m 1), .int .i64 (lf m 2), .int .i64 (lf m 3), .int .i64 (lf m 4), .int .i64 (lf m 5), .int .i64 (lf m 6), .int .i64 (lf m 7), .int .i64 (lf m 8), .int .i64 (lf m 9), .int .i64 (lf m 10), .int .i64 (lf m 11), .int .i64 (lf m 12), .int .i64 (lf m 13), .int .i64 (lf m 14), .int .i64 (lf m 15)]] w fun e w' => e = .returned (.agg #[.int .i64 m.aa, .int .i64 m.bb, .int .i64 m.cc, .int .i64 m.bc, .int .i64 m.ac, .int .i64 m.ab]) ∧ Below w.heap.size w w' := by
  obtain ⟨h0, h1, h2, h3, h4, h5⟩ := h
  have t := rmetric_any (lf m 0) (lf m 1) (lf m 2) (lf m 3) (lf m 4) (lf m 5) (lf m 6) (lf m 7) (lf m 8) (lf m 9) (lf m 10) (lf m 11) (lf m 12) (lf m 13) (lf m 14) (lf m 15) w
  exact to_v (met_v h0 h1 h2 h3 h4 h5) t
theorem rmul_M (a b : Mt) (w : World) : Calls Try.prog 45 #[.agg #[.int .i64 a.p00, .int .i64 a.p01, .int .i64 a.p02, .int .i64 a.p10, .int .i64 a.p11, .int .i64 a.p12, .int .i64 a.p20, .int .i64 a.p21, .int .i64 a.p22], .agg #[.int .i64 b.p00, .int .i64 b.p01, .int .i64 b.p02, .int .i64 b.p10, .int .i64 b.p11, .int .i64 b.p12, .int .i64 b.p20, .int .i64 b.p21, .int .i64 b.p22]] w fun e w' => e = .returned (.agg #[.int .i64 (mulW a b).p00, .int .i64 (mulW a b).p01, .int .i64 (mulW a b).p02, .int .i64 (mulW a b).p10, .int .i64 (mulW a b).p11, .int .i64 (mulW a b).p12, .int .i64 (mulW a b).p20, .int .i64 (mulW a b).p21, .int .i64 (mulW a b).p22]) ∧ Below w.heap.size w w' := rmul_any a.p00 a.p01 a.p02 a.p10 a.p11 a.p12 a.p20 a.p21 a.p22 b.p00 b.p01 b.p02 b.p10 b.p11 b.p12 b.p20 b.p21 b.p22 w
structure DI (W0 : World) (B bf : Nat) (m : Met) (p : Mt) (wr : World) : Prop where
  below : Below B W0 wr
  za : bf + 1 < wr.heap.size
  zb : B + 1 + 1 < bf
  f0 : wr.cell? ⟨bf, 0, none⟩ = some (.int .i64 (lf m 0))
  f1 : wr.cell? ⟨bf, 1, none⟩ = some (.int .i64 (lf m 1))
  f2 : wr.cell? ⟨bf, 2, none⟩ = some (.int .i64 (lf m 2))
  f3 : wr.cell? ⟨bf, 3, none⟩ = some (.int .i64 (lf m 3))
  f4 : wr.cell? ⟨bf, 4, none⟩ = some (.int .i64 (lf m 4))
  f5 : wr.cell? ⟨bf, 5, none⟩ = some (.int .i64 (lf m 5))
  f6 : wr.cell? ⟨bf, 6, none⟩ = some (.int .i64 (lf m 6))
  f7 : wr.cell? ⟨bf, 7, none⟩ = some (.int .i64 (lf m 7))
  f8 : wr.cell? ⟨bf, 8, none⟩ = some (.int .i64 (lf m 8))
  f9 : wr.cell? ⟨bf, 9, none⟩ = some (.int .i64 (lf m 9))
  f10 : wr.cell? ⟨bf, 10, none⟩ = some (.int .i64 (lf m 10))
  f11 : wr.cell? ⟨bf, 11, none⟩ = some (.int .i64 (lf m 11))
  f12 : wr.cell? ⟨bf, 12, none⟩ = some (.int .i64 (lf m 12))
  f13 : wr.cell? ⟨bf, 13, none⟩ = some (.int .i64 (lf m 13))
  f14 : wr.cell? ⟨bf, 14, none⟩ = some (.int .i64 (lf m 14))
  f15 : wr.cell? ⟨bf, 15, none⟩ = some (.int .i64 (lf m 15))
  p0 : wr.cell? ⟨bf + 1, 0, none⟩ = some (.int .i64 p.p00)
  q0 : wr.cell? ⟨B + 1 + 1, 0, none⟩ = some (.int .i64 0)
  p1 : wr.cell? ⟨bf + 1, 1, none⟩ = some (.int .i64 p.p01)
  q1 : wr.cell? ⟨B + 1 + 1, 1, none⟩ = some (.int .i64 0)
  p2 : wr.cell? ⟨bf + 1, 2, none⟩ = some (.int .i64 p.p02)
  q2 : wr.cell? ⟨B + 1 + 1, 2, none⟩ = some (.int .i64 0)
  p3 : wr.cell? ⟨bf + 1, 3, none⟩ = some (.int .i64 p.p10)
  q3 : wr.cell? ⟨B + 1 + 1, 3, none⟩ = some (.int .i64 0)
  p4 : wr.cell? ⟨bf + 1, 4, none⟩ = some (.int .i64 p.p11)
  q4 : wr.cell? ⟨B + 1 + 1, 4, none⟩ = some (.int .i64 0)
  p5 : wr.cell? ⟨bf + 1, 5, none⟩ = some (.int .i64 p.p12)
  q5 : wr.cell? ⟨B + 1 + 1, 5, none⟩ = some (.int .i64 0)
  p6 : wr.cell? ⟨bf + 1, 6, none⟩ = some (.int .i64 p.p20)
  q6 : wr.cell? ⟨B + 1 + 1, 6, none⟩ = some (.int .i64 0)
  p7 : wr.cell? ⟨bf + 1, 7, none⟩ = some (.int .i64 p.p21)
  q7 : wr.cell? ⟨B + 1 + 1, 7, none⟩ = some (.int .i64 0)
  p8 : wr.cell? ⟨bf + 1, 8, none⟩ = some (.int .i64 p.p22)
  q8 : wr.cell? ⟨B + 1 + 1, 8, none⟩ = some (.int .i64 0)
  r0 : wr.cell? ⟨B + 1, 0, none⟩ = some (.int .i64 0)
  r1 : wr.cell? ⟨B + 1, 1, none⟩ = some (.int .i64 0)
  r2 : wr.cell? ⟨B + 1, 2, none⟩ = some (.int .i64 0)
  r3 : wr.cell? ⟨B + 1, 3, none⟩ = some (.int .i64 0)
  r4 : wr.cell? ⟨B + 1, 4, none⟩ = some (.int .i64 0)
  r5 : wr.cell? ⟨B + 1, 5, none⟩ = some (.int .i64 0)
  k0 : ∀ o, wr.frozen? ⟨bf, o, none⟩ = false
  k1 : ∀ o, wr.frozen? ⟨bf + 1, o, none⟩ = false
  k2 : ∀ o, wr.frozen? ⟨B + 1, o, none⟩ = false
  k3 : ∀ o, wr.frozen? ⟨B + 1 + 1, o, none⟩ = false
set_option maxHeartbeats 400000 in
theorem DocObtuse_bad (m : Met) (C : Int) (w : World) (h : chk m = C) (hC : C ≠ 0):
    Calls Try.prog 14 #[.agg #[.int .i64 m.aa, .int .i64 m.bb, .int .i64 m.cc, .int .i64 m.bc, .int .i64 m.ac, .int .i64 m.ab]] w fun e w' => e = .returned (.tuple #[.agg #[.int .i64 0, .int .i64 0, .int .i64 0, .int .i64 0, .int .i64 0, .int .i64 0], .agg #[.int .i64 0, .int .i64 0, .int .i64 0, .int .i64 0, .int .i64 0, .int .i64 0, .int .i64 0, .int .i64 0, .int .i64 0], .int .i64 0, .int .i64 C]) ∧ Below w.heap.size w w' := by
  have E := Lib.hid h; clear h
  go_enter Try.func14, Try.ntmps14
  go_wp2_with fail
  refine (to_v (congrArg (Value.int .i64) E.out) (dcheck_any _ _ _ _ _ _ _)).mono ?_
  rintro e w1 ⟨rfl, hb1⟩
  obtain ⟨hc1, hf1⟩ := bcell hb1
  have hz1 := hb1.size
  try simp at hz1
  have z1_0 : w.heap.size < w1.heap.size := by omega
  have z1_1 : w.heap.size + 1 < w1.heap.size := by omega
  have z1_2 : w.heap.size + 1 + 1 < w1.heap.size := by omega
  go_wp2
  refine bodyPost_ret (v := .tuple #[.agg #[.int .i64 0, .int .i64 0, .int .i64 0, .int .i64 0, .int .i64 0, .int .i64 0], .agg #[.int .i64 0, .int .i64 0, .int .i64 0, .int .i64 0, .int .i64 0, .int .i64 0, .int .i64 0, .int .i64 0, .int .i64 0], .int .i64 0, .int .i64 C]) (by simp [results, Try.results14, go_sem, wrap_add_l, wrap_add_r, wrap_sub_l, wrap_sub_r, wrap_mul_l, wrap_mul_r, wrap_neg, wrap_wrap, wrap3, *]) rfl ⟨rfl, ?_⟩
  repeat (first | exact Below.refl _ _ | assumption | exact Below.alloc (Below.refl _ _) (Nat.le_refl _) _ | refine Below.setCell ?_ (by first | (simp; done) | (simp; omega) | omega) _ | refine below_drewN ?_ _ | refine Below.alloc ?_ (by first | (simp; done) | (simp; omega) | omega) _ | refine Below.trans ?_ (Below.mono (by assumption) (by first | (simp; done) | (simp; omega) | omega)))

end Go.Proofs.Ytdhlkhockpblhaa
