/-
  The reference: one step, on the products of the four edges.
-/
import Derived.Test.YtdhlkhockpblhaaRedD
import Derived.Deep.RegionHeld3
import Derived.WalkMore
namespace Go.Proofs.Ytdhlkhockpblhaa
open Go.RowKit
attribute [local irreducible] World.setCell

set_option linter.unusedSimpArgs false
set_option linter.unusedVariables false

@[go_sem] theorem idxk0 (w : World) : (Instr.index 111 (.agg #[.int .i64 1, .int .i64 2, .int .i64 0, .int .i64 2, .int .i64 0, .int .i64 1, .int .i64 0, .int .i64 3, .int .i64 1, .int .i64 3, .int .i64 2, .int .i64 3]) (.int .i64 0)).run Try.prog w = .ok (.agg #[.int .i64 1, .int .i64 2]) w := by kernel_rfl
@[go_sem] theorem idxk1 (w : World) : (Instr.index 111 (.agg #[.int .i64 1, .int .i64 2, .int .i64 0, .int .i64 2, .int .i64 0, .int .i64 1, .int .i64 0, .int .i64 3, .int .i64 1, .int .i64 3, .int .i64 2, .int .i64 3]) (.int .i64 1)).run Try.prog w = .ok (.agg #[.int .i64 0, .int .i64 2]) w := by kernel_rfl
@[go_sem] theorem idxk2 (w : World) : (Instr.index 111 (.agg #[.int .i64 1, .int .i64 2, .int .i64 0, .int .i64 2, .int .i64 0, .int .i64 1, .int .i64 0, .int .i64 3, .int .i64 1, .int .i64 3, .int .i64 2, .int .i64 3]) (.int .i64 2)).run Try.prog w = .ok (.agg #[.int .i64 0, .int .i64 1]) w := by kernel_rfl
@[go_sem] theorem idxk3 (w : World) : (Instr.index 111 (.agg #[.int .i64 1, .int .i64 2, .int .i64 0, .int .i64 2, .int .i64 0, .int .i64 1, .int .i64 0, .int .i64 3, .int .i64 1, .int .i64 3, .int .i64 2, .int .i64 3]) (.int .i64 3)).run Try.prog w = .ok (.agg #[.int .i64 0, .int .i64 3]) w := by kernel_rfl
@[go_sem] theorem idxk4 (w : World) : (Instr.index 111 (.agg #[.int .i64 1, .int .i64 2, .int .i64 0, .int .i64 2, .int .i64 0, .int .i64 1, .int .i64 0, .int .i64 3, .int .i64 1, .int .i64 3, .int .i64 2, .int .i64 3]) (.int .i64 4)).run Try.prog w = .ok (.agg #[.int .i64 1, .int .i64 3]) w := by kernel_rfl
@[go_sem] theorem idxk5 (w : World) : (Instr.index 111 (.agg #[.int .i64 1, .int .i64 2, .int .i64 0, .int .i64 2, .int .i64 0, .int .i64 1, .int .i64 0, .int .i64 3, .int .i64 1, .int .i64 3, .int .i64 2, .int .i64 3]) (.int .i64 5)).run Try.prog w = .ok (.agg #[.int .i64 2, .int .i64 3]) w := by kernel_rfl
/-- The sum of the first n products of row i, the given numbers and row j. -/
def acc (T F : Nat → Int) (i j : Nat) : Nat → Int
  | 0 => 0
  | n + 1 => acc T F i j n + T (i * 4 + n / 4) * F n * T (j * 4 + n % 4)
def V16 (T F : Nat → Int) (k : Nat) : Int := wrap64 (acc T F (k / 4) (k % 4) 16)
structure GI (W0 : World) (B bT bG : Nat) (T : Nat → Int) (G : Nat → Int) (wr : World) : Prop where
  below : Below B W0 wr
  zt : bT < wr.heap.size
  zg : bG < wr.heap.size
  tc : ∀ k, k < 16 → wr.cell? ⟨bT, k, none⟩ = some (.int .i64 (T k))
  cells : ∀ k, k < 16 → wr.cell? ⟨bG, k, none⟩ = some (.int .i64 (G k))
  fz : ∀ o, wr.frozen? ⟨bG, o, none⟩ = false
def Gout (T F : Nat → Int) (m : Nat) (k : Nat) : Int := if k < m then V16 T F k else 0
def Gin (T F : Nat → Int) (i j n : Nat) (k : Nat) : Int := if k < i * 4 + j then V16 T F k else if k = i * 4 + j then wrap64 (acc T F i j n) else 0
theorem all16 {p : Nat → Prop} (h0 : p 0) (h1 : p 1) (h2 : p 2) (h3 : p 3) (h4 : p 4) (h5 : p 5) (h6 : p 6) (h7 : p 7) (h8 : p 8) (h9 : p 9) (h10 : p 10) (h11 : p 11) (h12 : p 12) (h13 : p 13) (h14 : p 14) (h15 : p 15) : ∀ k, k < 16 → p k := by
  intro k hk
  rcases (by omega : k = 0 ∨ k = 1 ∨ k = 2 ∨ k = 3 ∨ k = 4 ∨ k = 5 ∨ k = 6 ∨ k = 7 ∨ k = 8 ∨ k = 9 ∨ k = 10 ∨ k = 11 ∨ k = 12 ∨ k = 13 ∨ k = 14 ∨ k = 15) with rfl | rfl | rfl | rfl | rfl | rfl | rfl | rfl | rfl | rfl | rfl | rfl | rfl | rfl | rfl | rfl <;> assumption
theorem GI.of_eq {W0 : World} {B bT bG : Nat} {T G G' : Nat → Int} {wr : World} (h : GI W0 B bT bG T G wr) (e : ∀ k, k < 16 → G k = G' k) : GI W0 B bT bG T G' wr :=
  ⟨h.below, h.zt, h.zg, h.tc, fun k hk => e k hk ▸ h.cells k hk, h.fz⟩
theorem GI.set {W0 : World} {B bT bG : Nat} {T G G' : Nat → Int} {wr : World} (h : GI W0 B bT bG T G wr) (hB : B ≤ bG) (hTG : bT ≠ bG) {q : Nat} {v : Int} (e : ∀ k, k < 16 → G' k = if k = q then v else G k) (nq : Nat) :
    GI W0 B bT bG T G' ((wr.drewN nq).setCell ⟨bG, q, none⟩ (.int .i64 v)) := by
  refine ⟨(below_drewN h.below nq).setCell hB _, by simpa using h.zt, by simpa using h.zg, fun k hk => ?_, fun k hk => ?_, fun o => ?_⟩
  · rw [cell?_setCell_if, if_neg (fun h => hTG h.1.symm)]
    simpa using h.tc k hk
  · rw [cell?_setCell_if, e k hk]
    by_cases hk' : k = q
    · subst hk'
      rw [if_pos ⟨rfl, rfl⟩, if_pos rfl]
      have := h.cells k hk
      simp only [World.cell?_drewN] at *
      rw [this]; rfl
    · rw [if_neg (fun h => hk' h.2.symm), if_neg hk']
      simpa using h.cells k hk
  · simp only [World.frozen?_setCell]
    simpa using h.fz o
theorem in_start (T F : Nat → Int) (i j : Nat) : ∀ k, k < 16 → Gout T F (i * 4 + j) k = Gin T F i j 0 k := by
  intro k _
  unfold Gout Gin acc
  by_cases h : k < i * 4 + j
  · simp [h]
  · by_cases h2 : k = i * 4 + j <;> simp [h, h2, wrap64]
theorem in_end (T F : Nat → Int) (i j : Nat) (hj : j < 4) : ∀ k, k < 16 → Gin T F i j 16 k = Gout T F (i * 4 + (j + 1)) k := by
  intro k _
  unfold Gout Gin V16
  by_cases h : k < i * 4 + j
  · rw [if_pos h, if_pos (by omega)]
  · by_cases h2 : k = i * 4 + j
    · rw [if_neg h, if_pos h2, if_pos (by omega), show k / 4 = i by omega, show k % 4 = j by omega]
    · rw [if_neg h, if_neg h2, if_neg (by omega)]
theorem in_step (T F : Nat → Int) (i j n : Nat) {v : Int} (hv : v = wrap64 (acc T F i j n + T (i * 4 + n / 4) * F n * T (j * 4 + n % 4))) : ∀ k, k < 16 → Gin T F i j (n + 1) k = if k = i * 4 + j then v else Gin T F i j n k := by
  intro k _
  unfold Gin
  by_cases h : k < i * 4 + j
  · rw [if_pos h, if_neg (by omega), if_pos h]
  · by_cases h2 : k = i * 4 + j
    · rw [if_neg h, if_pos h2, if_pos h2, hv]; rfl
    · rw [if_neg h, if_neg h2, if_neg h2, if_neg h, if_neg h2]
def getF (l : List Int) (k : Nat) : Int := l.getD k 0

end Go.Proofs.Ytdhlkhockpblhaa
