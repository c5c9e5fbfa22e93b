/-
  The law CplxSums: lists of no numbers; both together.
-/
import Derived.Test.YtiloleochmdfoaaLawSums
namespace Go.Proofs.Ytiloleochmdfoaa
open Go.RowKit
attribute [local irreducible] World.setCell

set_option linter.unusedSimpArgs false
set_option linter.unusedVariables false

set_option maxHeartbeats 400000 in
theorem numbers_empty (a : Option Addr) (c : Nat) (w : World) :
    Calls Try.prog 27 #[.slice a 0 c] w fun e w' => e = .returned (.slice none 0 0) ∧ Below w.heap.size w w' := by
  go_enter Try.func27, Try.ntmps27
  go_wp2
  refine wp_loop_rounds 1 ?_
  rw [rounds_succ]
  go_wp2
  go_ret
  exact ⟨rfl, Below.refl _ _⟩

set_option maxHeartbeats 1600000 in
theorem sums_none (a : Option Addr) (c : Nat) (cut : Int) (w : World) :
    Calls Try.prog 7 #[.slice a 0 c, .int .i64 cut] w fun e w' => e = .returned (.bool true) ∧ Below w.heap.size w w' := by
  go_enter Try.func7, Try.ntmps7
  go_wp2_with fail
  refine (awake_any _).mono ?_
  rintro e w1 ⟨rfl, hb1⟩
  obtain ⟨hc1, hf1⟩ := bcell hb1
  have hz1 := hb1.size
  try simp at hz1
  go_wp2_with fail
  refine (numbers_empty _ _ _).mono ?_
  rintro e w2 ⟨rfl, hb2⟩
  obtain ⟨hc2, hf2⟩ := bcell hb2
  have hz2 := hb2.size
  try simp at hz2
  go_wp2_with fail
  refine (Sum_nil (fun _ => 0) (fun _ => 0) _).mono ?_
  rintro e w3 ⟨⟨r3, i3, rfl, er3, ei3⟩, hb3⟩
  have hz3 := hb3.size
  go_wp2_with fail
  refine (rSum_nil (fun _ => 0) (fun _ => 0) _).mono ?_
  rintro e w4 ⟨⟨r4, i4, rfl, er4, ei4⟩, hb4⟩
  have hz4 := hb4.size
  have k4 := both (er3.trans er4.symm) (ei3.trans ei4.symm)
  go_wp2_with fail
  refine (rSame_any _ _ _ _ _).mono ?_
  rintro e w' ⟨rfl, rfl⟩
  rw [k4]
  rcases Int.lt_or_le cut 0 with h1 | h1
  · go_wp2
    go_ret
    refine ⟨rfl, ?_⟩
    repeat (first | exact Below.refl _ _ | assumption | exact Below.alloc (Below.refl _ _) (Nat.le_refl _) _ | refine Below.setCell ?_ (by first | (simp; done) | (simp; omega) | omega) _ | refine below_drewN ?_ _ | refine below_fw ?_ _ _ _ | refine below_sw ?_ _ | refine Below.alloc ?_ (by first | (simp; done) | (simp; omega) | omega) _ | refine Below.trans ?_ (Below.mono (by assumption) (by first | (simp; done) | (simp; omega) | omega)))
  rcases Int.lt_or_le 0 cut with h2 | h2
  · go_wp2
    go_ret
    refine ⟨rfl, ?_⟩
    repeat (first | exact Below.refl _ _ | assumption | exact Below.alloc (Below.refl _ _) (Nat.le_refl _) _ | refine Below.setCell ?_ (by first | (simp; done) | (simp; omega) | omega) _ | refine below_drewN ?_ _ | refine below_fw ?_ _ _ _ | refine below_sw ?_ _ | refine Below.alloc ?_ (by first | (simp; done) | (simp; omega) | omega) _ | refine Below.trans ?_ (Below.mono (by assumption) (by first | (simp; done) | (simp; omega) | omega)))
  obtain rfl : cut = 0 := by omega
  go_wp2_with fail
  refine (Sum_nil (fun _ => 0) (fun _ => 0) _).mono ?_
  rintro e w5 ⟨⟨r5, i5, rfl, er5, ei5⟩, hb5⟩
  have hz5 := hb5.size
  go_wp2_with fail
  refine wp_loop_rounds 1 ?_
  rw [rounds_succ]
  go_wp2_with fail
  have k5 := both (er3.trans er5.symm) (ei3.trans ei5.symm)
  go_wp2_with fail
  refine (Same_any _ _ _ _ _).mono ?_
  rintro e w' ⟨rfl, rfl⟩
  rw [k5]
  go_wp2
  go_ret
  refine ⟨rfl, ?_⟩
  repeat (first | exact Below.refl _ _ | assumption | exact Below.alloc (Below.refl _ _) (Nat.le_refl _) _ | refine Below.setCell ?_ (by first | (simp; done) | (simp; omega) | omega) _ | refine below_drewN ?_ _ | refine below_fw ?_ _ _ _ | refine below_sw ?_ _ | refine Below.alloc ?_ (by first | (simp; done) | (simp; omega) | omega) _ | refine Below.trans ?_ (Below.mono (by assumption) (by first | (simp; done) | (simp; omega) | omega)))

/-- A list of pairs of patterns of bits that came in. -/
def ListArg (w : World) (v : Value) : Prop := (∃ a c, v = .slice a 0 c) ∨ ∃ (bk o n c : Nat) (x y : Nat → Int), v = .slice (some ⟨bk, o, none⟩) n c ∧ bk < w.heap.size ∧ n ≤ c ∧ n * 16 ≤ 140737488351232 ∧
  (∀ k, k < n → w.cell? ⟨bk, o + 2 * k, none⟩ = some (.int .u64 (x k))) ∧ (∀ k, k < n → w.cell? ⟨bk, o + 2 * k + 1, none⟩ = some (.int .u64 (y k)))
theorem sums_any {w : World} {v : Value} (h : ListArg w v) (cut : Int) : Calls Try.prog 7 #[v, .int .i64 cut] w fun e w' => e = .returned (.bool true) ∧ Below w.heap.size w w' := by
  rcases h with ⟨a, c, rfl⟩ | ⟨bk, o, n, c, x, y, rfl, h1, h2, h3, h4, h5⟩
  · exact sums_none a c cut w
  · exact sums_some bk o n c x y cut w h1 h2 h3 h4 h5
end Go.Proofs.Ytiloleochmdfoaa
