/-
  Sums of such lists; lists that are the same.
-/
import Derived.Test.YtiloleochmdfoaaCxH
import Derived.Test.YtiloleochmdfoaaCxE
namespace Go.Proofs.Ytiloleochmdfoaa
open Go.RowKit
attribute [local irreducible] World.setCell

set_option linter.unusedSimpArgs false
set_option linter.unusedVariables false

set_option maxHeartbeats 400000 in
theorem numbers_nil (x y : Nat → Int) (w : World) :
    Calls Try.prog 27 #[.slice none 0 0] w fun e w' => ∃ v, e = .returned v ∧ w'.ownsRow w.heap.size 25 1 v 0 (CXL x y 0) ∧ Below w.heap.size w w' := by
  go_enter Try.func27, Try.ntmps27
  go_wp2
  refine wp_loop_rounds 1 ?_
  rw [rounds_succ]
  go_wp2
  go_ret
  exact ⟨_, rfl, ⟨rfl, .inl ⟨rfl, rfl⟩⟩, Below.refl _ _⟩

set_option maxHeartbeats 400000 in
theorem Sum_nil (re im : Nat → Nat) (w : World) :
    Calls Try.prog 28 #[.slice none 0 0] w fun e w' => (∃ r i : Nat, e = .returned (.complex .f64 r i) ∧ cn r = csum re 0 ∧ cn i = csum im 0) ∧ Below w.heap.size w w' := by
  go_enter Try.func28, Try.ntmps28
  go_wp2
  refine wp_loop_rounds 1 ?_
  rw [rounds_succ]
  go_wp2
  go_ret
  exact ⟨⟨0, 0, rfl, by show cn 0 = some 0; decide +kernel, by show cn 0 = some 0; decide +kernel⟩, Below.refl _ _⟩

set_option maxHeartbeats 400000 in
theorem rSum_nil (re im : Nat → Nat) (w : World) :
    Calls Try.prog 30 #[.slice none 0 0] w fun e w' => (∃ r i : Nat, e = .returned (.complex .f64 r i) ∧ cn r = csum re 0 ∧ cn i = csum im 0) ∧ Below w.heap.size w w' := by
  go_enter Try.func30, Try.ntmps30
  go_wp2
  refine wp_loop_rounds 1 ?_
  rw [rounds_succ]
  go_wp2
  go_ret
  exact ⟨⟨0, 0, rfl, by show cn 0 = some 0; decide +kernel, by show cn 0 = some 0; decide +kernel⟩, Below.refl _ _⟩

set_option maxHeartbeats 800000 in
theorem rSum_any (bk o n c : Nat) (re im : Nat → Nat) (w : World) (hbk : bk < w.heap.size) (hcap : n ≤ c) (hn : n ≤ 8796093022208) (hc : ∀ k, k < n → w.cell? ⟨bk, o + k, none⟩ = some (.complex .f64 (re k) (im k))):
    Calls Try.prog 30 #[.slice (some ⟨bk, o, none⟩) n c] w fun e w' => (∃ r i : Nat, e = .returned (.complex .f64 r i) ∧ cn r = csum re n ∧ cn i = csum im n) ∧ Below w.heap.size w w' := by
  go_enter Try.func30, Try.ntmps30
  go_wp2
  go_loopw [9, 3, 4] (fun i s t wr => ∃ k : Nat, k ≤ n ∧ i = .int .i64 k ∧ (∃ r j : Nat, s = .float .f64 r ∧ t = .float .f64 j ∧ cn r = csum re k ∧ cn j = csum im k) ∧ Below w.heap.size w wr) (fun i _ _ _ => n - (intOf i).toNat)
  case atStart => exact ⟨0, by omega, rfl, ⟨0, 0, rfl, rfl, by show cn 0 = some 0; decide +kernel, by show cn 0 = some 0; decide +kernel⟩, Below.refl _ _⟩
  case round =>
    obtain ⟨k, hk, rfl, ⟨r, j, rfl, rfl, er, ej⟩, hb⟩ := hrel
    obtain ⟨hcw, hfw⟩ := bcell hb
    by_cases hlt : k < n
    · have ck := (hb.cell (p := ⟨bk, o + k, none⟩) hbk).trans (hc k hlt)
      have hz := hb.size
      go_wp2
      go_roundw
      case rel =>
        refine ⟨k + 1, by omega, by go_num, ⟨_, _, rfl, rfl, ?_, ?_⟩, ?_⟩
        · rw [cn_fr, er]; rfl
        · rw [cn_fr, ej]; rfl
        · repeat (first | exact Below.refl _ _ | assumption | exact Below.alloc (Below.refl _ _) (Nat.le_refl _) _ | refine Below.setCell ?_ (by first | (simp; done) | (simp; omega) | omega) _ | refine below_drewN ?_ _ | refine below_fw ?_ _ _ _ | refine below_sw ?_ _ | refine Below.alloc ?_ (by first | (simp; done) | (simp; omega) | omega) _ | refine Below.trans ?_ (Below.mono (by assumption) (by first | (simp; done) | (simp; omega) | omega)))
      case measure => simp [intOf] <;> omega
    · obtain rfl : k = n := by omega
      go_wp2
      go_ret
      exact ⟨⟨r, j, rfl, er, ej⟩, hb⟩

abbrev tn (x : Nat → Int) : Nat → Nat := fun k => (x k).toNat
theorem own_cells {w : World} {base g n cap : Nat} {x y : Nat → Int} (h : w.ownsRow base 25 1 (.slice (some ⟨g, 0, none⟩) n cap) n (CXL x y n)) : g < w.heap.size ∧ n ≤ cap ∧ ∀ k, k < n → w.cell? ⟨g, 0 + k, none⟩ = some (.complex .f64 (tn x k) (tn y k)) := by
  refine ⟨?_, ?_, fun k hk => ?_⟩
  · rcases h.2 with ⟨h', _⟩ | ⟨g', cap', cur, h', _, hg, _⟩
    · cases h'
    · cases h'; exact (Array.getElem?_eq_some_iff.1 hg).1
  · rcases h.2 with ⟨h', _⟩ | ⟨g', cap', cur, h', _, hg, hc, _⟩
    · cases h'
    · cases h'; exact hc
  · rw [Nat.zero_add, h.cellAt k (by omega), CXL_at x y n k hk]; rfl
theorem Sum_own {base n : Nat} {v : Value} {x y : Nat → Int} (w : World) (hn : n * 16 ≤ 140737488351232) (h : w.ownsRow base 25 1 v n (CXL x y n)) : Calls Try.prog 28 #[v] w fun e w' => (∃ r i : Nat, e = .returned (.complex .f64 r i) ∧ cn r = csum (tn x) n ∧ cn i = csum (tn y) n) ∧ Below w.heap.size w w' := by
  rcases h.2 with ⟨rfl, rfl⟩ | ⟨g, cap, cur, rfl, _⟩
  · exact Sum_nil (tn x) (tn y) w
  · obtain ⟨h1, h2, h3⟩ := own_cells h
    exact Sum_any g 0 n cap (tn x) (tn y) w h1 h2 (by omega) h3
theorem rSum_own {base n : Nat} {v : Value} {x y : Nat → Int} (w : World) (hn : n * 16 ≤ 140737488351232) (h : w.ownsRow base 25 1 v n (CXL x y n)) : Calls Try.prog 30 #[v] w fun e w' => (∃ r i : Nat, e = .returned (.complex .f64 r i) ∧ cn r = csum (tn x) n ∧ cn i = csum (tn y) n) ∧ Below w.heap.size w w' := by
  rcases h.2 with ⟨rfl, rfl⟩ | ⟨g, cap, cur, rfl, _⟩
  · exact rSum_nil (tn x) (tn y) w
  · obtain ⟨h1, h2, h3⟩ := own_cells h
    exact rSum_any g 0 n cap (tn x) (tn y) w h1 h2 (by omega) h3
end Go.Proofs.Ytiloleochmdfoaa
