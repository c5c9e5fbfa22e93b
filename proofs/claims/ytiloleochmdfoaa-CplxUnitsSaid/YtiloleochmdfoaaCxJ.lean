/-
  Lists as they came in; lists that are the same.
-/
import Derived.Test.YtiloleochmdfoaaLawSums2
namespace Go.Proofs.Ytiloleochmdfoaa
open Go.RowKit
attribute [local irreducible] World.setCell

set_option linter.unusedSimpArgs false
set_option linter.unusedVariables false

def ListIs (w : World) (v : Value) (n : Nat) (x y : Nat → Int) : Prop := n * 16 ≤ 140737488351232 ∧ ((n = 0 ∧ ∃ a c, v = .slice a 0 c) ∨ ∃ (bk o c : Nat), v = .slice (some ⟨bk, o, none⟩) n c ∧ bk < w.heap.size ∧ n ≤ c ∧
  (∀ k, k < n → w.cell? ⟨bk, o + 2 * k, none⟩ = some (.int .u64 (x k))) ∧ (∀ k, k < n → w.cell? ⟨bk, o + 2 * k + 1, none⟩ = some (.int .u64 (y k))))
theorem ListArg.is {w : World} {v : Value} (h : ListArg w v) : ∃ n x y, ListIs w v n x y := by
  rcases h with ⟨a, c, rfl⟩ | ⟨bk, o, n, c, x, y, rfl, h1, h2, h3, h4, h5⟩
  · exact ⟨0, fun _ => 0, fun _ => 0, by omega, .inl ⟨rfl, a, c, rfl⟩⟩
  · exact ⟨n, x, y, h3, .inr ⟨bk, o, c, rfl, h1, h2, h4, h5⟩⟩
theorem ListIs.below {w w' : World} {v : Value} {n : Nat} {x y : Nat → Int} (h : ListIs w v n x y) (hb : Below w.heap.size w w') : ListIs w' v n x y := by
  obtain ⟨h0, h⟩ := h
  refine ⟨h0, ?_⟩
  rcases h with h | ⟨bk, o, c, rfl, h1, h2, h4, h5⟩
  · exact .inl h
  · exact .inr ⟨bk, o, c, rfl, Nat.lt_of_lt_of_le h1 hb.size, h2, fun k hk => (hb.cell (p := ⟨bk, o + 2 * k, none⟩) h1).trans (h4 k hk), fun k hk => (hb.cell (p := ⟨bk, o + 2 * k + 1, none⟩) h1).trans (h5 k hk)⟩
theorem numbers_any {w : World} {v0 : Value} {n : Nat} {x y : Nat → Int} (h : ListIs w v0 n x y) : Calls Try.prog 27 #[v0] w fun e w' => ∃ v, e = .returned v ∧ w'.ownsRow w.heap.size 25 1 v n (CXL x y n) ∧ Below w.heap.size w w' := by
  obtain ⟨h0, h⟩ := h
  rcases h with ⟨rfl, a, c, rfl⟩ | ⟨bk, o, c, rfl, h1, h2, h4, h5⟩
  · refine (numbers_empty a c w).mono ?_
    rintro e w' ⟨he, hb⟩
    exact ⟨_, he, ⟨rfl, .inl ⟨rfl, rfl⟩⟩, hb⟩
  · exact numbers_some bk o n c x y w h1 h2 h0 h4 h5
set_option maxHeartbeats 800000 in
theorem SameAll_any (b1 n c1 : Nat) (v2 : Value) (re im : Nat → Nat) (w : World) (hn : n ≤ 8796093022208) (hb1 : b1 < w.heap.size) (hc1 : n ≤ c1) (hq1 : ∀ k, k < n → w.cell? ⟨b1, 0 + k, none⟩ = some (.complex .f64 (re k) (im k))) (hq : (v2 = .slice none 0 0 ∧ n = 0) ∨ ∃ b2 c2, v2 = .slice (some ⟨b2, 0, none⟩) n c2 ∧ b2 < w.heap.size ∧ n ≤ c2 ∧ ∀ k, k < n → w.cell? ⟨b2, 0 + k, none⟩ = some (.complex .f64 (re k) (im k))):
    Calls Try.prog 31 #[.slice (some ⟨b1, 0, none⟩) n c1, v2] w fun e w' => e = .returned (.bool true) ∧ Below w.heap.size w w' := by
  rcases hq with ⟨rfl, rfl⟩ | ⟨b2, c2, rfl, hb2, hc2, hq2⟩
  · go_enter Try.func31, Try.ntmps31
    go_wp2
    refine wp_loop_rounds 1 ?_
    rw [rounds_succ]
    go_wp2
    go_ret
    exact ⟨rfl, Below.refl _ _⟩
  · go_enter Try.func31, Try.ntmps31
    go_wp2
    go_loopw [13] (fun i wr => ∃ k : Nat, k ≤ n ∧ i = .int .i64 k ∧ Below w.heap.size w wr) (fun i _ => n - (intOf i).toNat)
    case atStart => exact ⟨0, by omega, rfl, Below.refl _ _⟩
    case round =>
      obtain ⟨k, hk, rfl, hb⟩ := hrel
      have hz := hb.size
      by_cases hlt : k < n
      · have ca := (hb.cell (p := ⟨b1, 0 + k, none⟩) hb1).trans (hq1 k hlt)
        have cb := (hb.cell (p := ⟨b2, 0 + k, none⟩) hb2).trans (hq2 k hlt)
        rw [Nat.zero_add] at ca cb
        have ks := both (rfl : cn (re k) = cn (re k)) (rfl : cn (im k) = cn (im k))
        have zb1 : b1 < wr.heap.size := by omega
        have zb2 : b2 < wr.heap.size := by omega
        go_wp2
        refine region_all (by kernel_rfl) (by kernel_rfl) ?_
        repeat (go_big_quiet_step ((go_at_call 29; exact held_of _ (Nat.le_refl _) (same_below (rSame_any _ _ _ _ _)))))
        refine wpQuiet_nil ?_
        rintro x1 ⟨⟨w0, hbx1⟩, rfl⟩
        obtain ⟨hcx1, hfx1⟩ := bcell hbx1
        have hzx1 := hbx1.size
        try simp at hzx1
        go_wp2
        go_roundw
        case rel =>
          refine ⟨k + 1, by omega, by go_num, ?_⟩
          repeat (first | exact Below.refl _ _ | assumption | exact Below.alloc (Below.refl _ _) (Nat.le_refl _) _ | refine Below.setCell ?_ (by first | (simp; done) | (simp; omega) | omega) _ | refine below_drewN ?_ _ | refine below_fw ?_ _ _ _ | refine below_sw ?_ _ | refine Below.alloc ?_ (by first | (simp; done) | (simp; omega) | omega) _ | refine Below.trans ?_ (Below.mono (by assumption) (by first | (simp; done) | (simp; omega) | omega)))
        case measure => simp [intOf] <;> omega
      · obtain rfl : k = n := by omega
        go_wp2
        go_ret
        exact ⟨rfl, hb⟩

end Go.Proofs.Ytiloleochmdfoaa
