/-
  The law ReduceEnds: refused metrics; what the steps leave.
-/
import Derived.Test.YtdhlkhockpblhaaRedX
import Derived.Test.YtdhlkhockpblhaaLawFalls
namespace Go.Proofs.Ytdhlkhockpblhaa
open Go.RowKit
attribute [local irreducible] World.setCell

set_option linter.unusedSimpArgs false
set_option linter.unusedVariables false

/-- A walk's world forgotten but for what S says of it. -/
theorem wp_abs {P : Program} {c : Code} {Q : Exit → Act → World → Prop} {a : Act} {w : World} (S : World → Prop) (h : S w) (k : ∀ w', S w' → c.wp P Q a w') : c.wp P Q a w := k w h
/-- A world that keeps all that lay in Wc. -/
theorem sb_of {Wc w' : World} (h : Below Wc.heap.size Wc w') : Below Wc.heap.size Wc w' ∧ ∀ b o, b < Wc.heap.size → w'.cell? ⟨b, o, none⟩ = Wc.cell? ⟨b, o, none⟩ := ⟨h, fun b o hb => h.cell (p := ⟨b, o, none⟩) hb⟩
theorem sb_alloc {Wc w' : World} (h : Below Wc.heap.size Wc w') (o : Obj) : Below Wc.heap.size Wc (w'.alloc o) ∧ ∀ b o', b < Wc.heap.size → (w'.alloc o).cell? ⟨b, o', none⟩ = Wc.cell? ⟨b, o', none⟩ := sb_of (h.alloc h.size o)
theorem sb_set {Wc w' : World} (h : Below Wc.heap.size Wc w') (p : Addr) (v : Value) (hp : Wc.heap.size ≤ p.block) : Below Wc.heap.size Wc (w'.setCell p v) ∧ ∀ b o', b < Wc.heap.size → (w'.setCell p v).cell? ⟨b, o', none⟩ = Wc.cell? ⟨b, o', none⟩ := sb_of (h.setCell hp v)
theorem sb_call {Wc w' w'' : World} (h : Below Wc.heap.size Wc w') (hb : Below w'.heap.size w' w'') : Below Wc.heap.size Wc w'' ∧ ∀ b o, b < Wc.heap.size → w''.cell? ⟨b, o, none⟩ = Wc.cell? ⟨b, o, none⟩ := sb_of (h.trans (hb.mono h.size))

set_option maxHeartbeats 800000 in
set_option maxRecDepth 100000 in
theorem ends_bad (m : Met) (C : Int) (w : World) (h : chk m = C) (hC : C ≠ 0):
    Calls Try.prog 6 #[.agg #[.int .i64 m.aa, .int .i64 m.bb, .int .i64 m.cc, .int .i64 m.bc, .int .i64 m.ac, .int .i64 m.ab]] w fun e w' => e = .returned (.bool true) ∧ Below w.heap.size w w' := by
  have A1 := fun w => Obtuse_bad m C w h hC
  have A2 := fun w => Det_bad m C w h hC
  have B1 := Lib.hid A1; have B2 := Lib.hid A2; clear A1 A2 h
  go_enter Try.func6, Try.ntmps6
  go_wp2_with fail
  refine (awake_any _).mono ?_
  rintro e w1 ⟨rfl, hb1⟩
  obtain ⟨hc1, hf1⟩ := bcell hb1
  have hz1 := hb1.size
  try simp at hz1
  have z1_0 : w.heap.size < w1.heap.size := by omega
  go_wp2_with fail
  refine (B1.out _).mono ?_
  rintro e w2 ⟨rfl, hb2⟩
  obtain ⟨hc2, hf2⟩ := bcell hb2
  have hz2 := hb2.size
  try simp at hz2
  have z2_0 : w.heap.size < w2.heap.size := by omega
  go_wp2_with fail
  refine (B2.out _).mono ?_
  rintro e w3 ⟨rfl, hb3⟩
  obtain ⟨hc3, hf3⟩ := bcell hb3
  have hz3 := hb3.size
  try simp at hz3
  have z3_0 : w.heap.size < w3.heap.size := by omega
  have z3_1 : w2.heap.size < w3.heap.size := by omega
  have z3_2 : w2.heap.size + 1 < w3.heap.size := by omega
  have y3_0 : w.heap.size < w2.heap.size + 1 + 1 := by omega
  go_wp2
  go_ret
  refine ⟨rfl, ?_⟩
  repeat (first | exact Below.refl _ _ | assumption | exact Below.alloc (Below.refl _ _) (Nat.le_refl _) _ | refine Below.setCell ?_ (by first | (simp; done) | (simp; omega) | omega) _ | refine below_drewN ?_ _ | refine Below.alloc ?_ (by first | (simp; done) | (simp; omega) | omega) _ | refine Below.trans ?_ (Below.mono (by assumption) (by first | (simp; done) | (simp; omega) | omega)))

def nothE (m : Met) (i : Nat) : Bool := decide (∀ k, k < i → sixE m k ≤ 0)
theorem nothE_succ (m : Met) (i : Nat) : nothE m (i + 1) = (nothE m i && decide (sixE m i ≤ 0)) := by
  unfold nothE
  by_cases h : ∀ k, k < i → sixE m k ≤ 0
  · by_cases h2 : sixE m i ≤ 0
    · rw [decide_eq_true h, decide_eq_true h2, decide_eq_true (fun k hk => by rcases (by omega : k < i ∨ k = i) with q | rfl; exact h k q; exact h2)]; rfl
    · rw [decide_eq_false h2, decide_eq_false (fun q => h2 (q i (by omega)))]; simp
  · rw [decide_eq_false h, decide_eq_false (fun q => h (fun k hk => q k (by omega)))]; rfl
theorem nothE_N {m : Met} (hc : Chk m) {N : Nat} (hN : pick (it m N) = 6) (hl : ∀ k, k < N → pick (it m k) < 6) : nothE m 6 = decide (N = 0) := by
  have p := pick_six hc
  unfold nothE
  by_cases h0 : N = 0
  · subst h0
    have hp : pick m = 6 := hN
    rw [decide_eq_true rfl, decide_eq_true (fun k hk => (p k hk).1 (by omega))]
  · have hp := hl 0 (by omega)
    have hp' : pick m < 6 := hp
    have := (p (pick m) hp').2 rfl
    rw [decide_eq_false h0, decide_eq_false (fun q => by have := q (pick m) hp'; omega)]
/-- What the law says of the metric and the matrix behind all steps, in the words that the walk reads. -/
structure EndsF (m mL : Met) (pL : Mt) (N : Nat) : Prop where
  s : ∀ k, k < 6 → sx mL k ≤ 0
  w : wrap64 mL.aa = mL.aa ∧ wrap64 mL.bb = mL.bb ∧ wrap64 mL.cc = mL.cc ∧ wrap64 mL.bc = mL.bc ∧ wrap64 mL.ac = mL.ac ∧ wrap64 mL.ab = mL.ab
  d : wrap64 (pL.p00 * pL.p11 * pL.p22 - pL.p00 * pL.p12 * pL.p21 + (pL.p01 * pL.p12 * pL.p20 - pL.p01 * pL.p10 * pL.p22) + (pL.p02 * pL.p10 * pL.p21 - pL.p02 * pL.p11 * pL.p20)) = 1 - 2 * ((N : Int) % 2)
  v : dv mL = dv m
  g0 : wrap64 (m.aa * pL.p00 * pL.p00 + m.bb * pL.p10 * pL.p10 + m.cc * pL.p20 * pL.p20 + m.bc * (pL.p10 * pL.p20 + pL.p20 * pL.p10) + m.ac * (pL.p00 * pL.p20 + pL.p20 * pL.p00) + m.ab * (pL.p00 * pL.p10 + pL.p10 * pL.p00)) = mL.aa
  g1 : wrap64 (m.aa * pL.p01 * pL.p01 + m.bb * pL.p11 * pL.p11 + m.cc * pL.p21 * pL.p21 + m.bc * (pL.p11 * pL.p21 + pL.p21 * pL.p11) + m.ac * (pL.p01 * pL.p21 + pL.p21 * pL.p01) + m.ab * (pL.p01 * pL.p11 + pL.p11 * pL.p01)) = mL.bb
  g2 : wrap64 (m.aa * pL.p02 * pL.p02 + m.bb * pL.p12 * pL.p12 + m.cc * pL.p22 * pL.p22 + m.bc * (pL.p12 * pL.p22 + pL.p22 * pL.p12) + m.ac * (pL.p02 * pL.p22 + pL.p22 * pL.p02) + m.ab * (pL.p02 * pL.p12 + pL.p12 * pL.p02)) = mL.cc
  g3 : wrap64 (m.aa * pL.p01 * pL.p02 + m.bb * pL.p11 * pL.p12 + m.cc * pL.p21 * pL.p22 + m.bc * (pL.p11 * pL.p22 + pL.p21 * pL.p12) + m.ac * (pL.p01 * pL.p22 + pL.p21 * pL.p02) + m.ab * (pL.p01 * pL.p12 + pL.p11 * pL.p02)) = mL.bc
  g4 : wrap64 (m.aa * pL.p00 * pL.p02 + m.bb * pL.p10 * pL.p12 + m.cc * pL.p20 * pL.p22 + m.bc * (pL.p10 * pL.p22 + pL.p20 * pL.p12) + m.ac * (pL.p00 * pL.p22 + pL.p20 * pL.p02) + m.ab * (pL.p00 * pL.p12 + pL.p10 * pL.p02)) = mL.ac
  g5 : wrap64 (m.aa * pL.p00 * pL.p01 + m.bb * pL.p10 * pL.p11 + m.cc * pL.p20 * pL.p21 + m.bc * (pL.p10 * pL.p21 + pL.p20 * pL.p11) + m.ac * (pL.p00 * pL.p21 + pL.p20 * pL.p01) + m.ab * (pL.p00 * pL.p11 + pL.p10 * pL.p01)) = mL.ab
theorem endsF {m : Met} (h : chk m = 0) {N : Nat} (hN : pick (it m N) = 6) (hl : ∀ k, k < N → pick (it m k) < 6) : EndsF m (it m N) (al m N) N := by
  have hc := chk_ok h
  obtain ⟨e, d⟩ := it_gr hc.pd hc.sum N hl
  obtain ⟨a, b⟩ := it_good hc.pd hc.sum N hl
  have ent := ent_w a b
  have g := gr_wrap m (alE m N)
  rw [← al_w m N, ← e] at g
  refine ⟨fun k hk => pick6 hN k hk, ent, ?_, ?_, g.1.trans ent.1, g.2.1.trans ent.2.1, g.2.2.1.trans ent.2.2.1, g.2.2.2.1.trans ent.2.2.2.1, g.2.2.2.2.1.trans ent.2.2.2.2.1, g.2.2.2.2.2.trans ent.2.2.2.2.2⟩
  · have := D9_wrap (alE m N)
    rw [← al_w m N, D9_al m N hl] at this
    refine Eq.trans (show _ = wrap64 (D9 (al m N)) from rfl) (this.trans (wrapE (by omega) (by omega)))
  · unfold dv; rw [d]

structure EI (W0 : World) (B bl : Nat) (m mL : Met) (pL : Mt) (wr : World) : Prop where
  below : Below B W0 wr
  zl : bl + 1 < wr.heap.size
  l0 : wr.cell? ⟨bl, 0, none⟩ = some (.int .i64 mL.aa)
  a0 : wr.cell? ⟨B, 0, none⟩ = some (.int .i64 m.aa)
  l1 : wr.cell? ⟨bl, 1, none⟩ = some (.int .i64 mL.bb)
  a1 : wr.cell? ⟨B, 1, none⟩ = some (.int .i64 m.bb)
  l2 : wr.cell? ⟨bl, 2, none⟩ = some (.int .i64 mL.cc)
  a2 : wr.cell? ⟨B, 2, none⟩ = some (.int .i64 m.cc)
  l3 : wr.cell? ⟨bl, 3, none⟩ = some (.int .i64 mL.bc)
  a3 : wr.cell? ⟨B, 3, none⟩ = some (.int .i64 m.bc)
  l4 : wr.cell? ⟨bl, 4, none⟩ = some (.int .i64 mL.ac)
  a4 : wr.cell? ⟨B, 4, none⟩ = some (.int .i64 m.ac)
  l5 : wr.cell? ⟨bl, 5, none⟩ = some (.int .i64 mL.ab)
  a5 : wr.cell? ⟨B, 5, none⟩ = some (.int .i64 m.ab)
  p0 : wr.cell? ⟨bl + 1, 0, none⟩ = some (.int .i64 pL.p00)
  p1 : wr.cell? ⟨bl + 1, 1, none⟩ = some (.int .i64 pL.p01)
  p2 : wr.cell? ⟨bl + 1, 2, none⟩ = some (.int .i64 pL.p02)
  p3 : wr.cell? ⟨bl + 1, 3, none⟩ = some (.int .i64 pL.p10)
  p4 : wr.cell? ⟨bl + 1, 4, none⟩ = some (.int .i64 pL.p11)
  p5 : wr.cell? ⟨bl + 1, 5, none⟩ = some (.int .i64 pL.p12)
  p6 : wr.cell? ⟨bl + 1, 6, none⟩ = some (.int .i64 pL.p20)
  p7 : wr.cell? ⟨bl + 1, 7, none⟩ = some (.int .i64 pL.p21)
  p8 : wr.cell? ⟨bl + 1, 8, none⟩ = some (.int .i64 pL.p22)
end Go.Proofs.Ytdhlkhockpblhaa
