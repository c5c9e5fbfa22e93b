/-
  The law CplxSums, walked: it returns true.
-/
import Derived.Test.YtiloleochmdfoaaCxI
import Derived.Test.YtiloleochmdfoaaCxF
namespace Go.Proofs.Ytiloleochmdfoaa
open Go.RowKit
attribute [local irreducible] World.setCell

set_option linter.unusedSimpArgs false
set_option linter.unusedVariables false

/-- The list that numbers makes. -/
theorem cut_cells {w : World} {base g n cap : Nat} {x y : Nat → Int} (h : w.ownsRow base 25 1 (.slice (some ⟨g, 0, none⟩) n cap) n (CXL x y n)) (m : Nat) (hm : m ≤ n) : ∀ k, k < m → w.cell? ⟨g, 0 + k, none⟩ = some (.complex .f64 (tn x k) (tn y k)) := fun k hk => (own_cells h).2.2 k (by omega)
set_option maxHeartbeats 1600000 in
theorem sums_some (bk o n c : Nat) (x y : Nat → Int) (cut : Int) (w : World) (hbk : bk < w.heap.size) (hcap : n ≤ c) (hn : n * 16 ≤ 140737488351232) (hc0 : ∀ k, k < n → w.cell? ⟨bk, o + 2 * k, none⟩ = some (.int .u64 (x k))) (hc1 : ∀ k, k < n → w.cell? ⟨bk, o + 2 * k + 1, none⟩ = some (.int .u64 (y k))):
    Calls Try.prog 7 #[.slice (some ⟨bk, o, none⟩) n c, .int .i64 cut] w fun e w' => e = .returned (.bool true) ∧ Below w.heap.size w w' := by
  have hc0w := hc0; have hc1w := hc1
  go_enter Try.func7, Try.ntmps7
  go_wp2_with fail
  refine (awake_any _).mono ?_
  rintro e w1 ⟨rfl, hb1⟩
  obtain ⟨hc1, hf1⟩ := bcell hb1
  have hz1 := hb1.size
  try simp at hz1
  go_wp2_with fail
  refine (numbers_some bk o n c x y _ (by omega) hcap hn (fun k hk => (hb1.cell (p := ⟨bk, o + 2 * k, none⟩) hbk).trans (hc0w k hk)) (fun k hk => (hb1.cell (p := ⟨bk, o + 2 * k + 1, none⟩) hbk).trans (hc1w k hk))).mono ?_
  rintro e w2 ⟨v, rfl, hown, hb2⟩
  have hz2 := hb2.size
  have hrow := hown
  go_wp2_with fail
  refine (Sum_own _ hn hown).mono ?_
  rintro e w3 ⟨⟨r3, i3, rfl, er3, ei3⟩, hb3⟩
  have hz3 := hb3.size
  have hown3 := ownsRow_below hown hb3
  go_wp2_with fail
  refine (rSum_own _ hn hown3).mono ?_
  rintro e w4 ⟨⟨r4, i4, rfl, er4, ei4⟩, hb4⟩
  have hz4 := hb4.size
  have hown4 := ownsRow_below hown3 hb4
  have k4 := both (er3.trans er4.symm) (ei3.trans ei4.symm)
  go_wp2_with fail
  refine (rSame_any _ _ _ _ _).mono ?_
  rintro e w' ⟨rfl, rfl⟩
  rw [k4]
  rcases hown4.2 with ⟨rfl, rfl⟩ | ⟨g, cap, cur, rfl, hg1, hg2, hg3, hg4, _⟩
  · rcases Int.lt_or_le cut 0 with h1 | h1
    · go_wp2
      go_ret
      refine ⟨rfl, ?_⟩
      repeat (first | exact Below.refl _ _ | assumption | exact Below.alloc (Below.refl _ _) (Nat.le_refl _) _ | refine Below.setCell ?_ (by first | (simp; done) | (simp; omega) | omega) _ | refine below_drewN ?_ _ | refine below_fw ?_ _ _ _ | refine below_sw ?_ _ | refine Below.alloc ?_ (by first | (simp; done) | (simp; omega) | omega) _ | refine Below.trans ?_ (Below.mono (by assumption) (by first | (simp; done) | (simp; omega) | omega)))
    rcases Int.lt_or_le 0 cut with h2 | h2
    · go_wp2
      go_ret
      refine ⟨rfl, ?_⟩
      repeat (first | exact Below.refl _ _ | assumption | exact Below.alloc (Below.refl _ _) (Nat.le_refl _) _ | refine Below.setCell ?_ (by first | (simp; done) | (simp; omega) | omega) _ | refine below_drewN ?_ _ | refine below_fw ?_ _ _ _ | refine below_sw ?_ _ | refine Below.alloc ?_ (by first | (simp; done) | (simp; omega) | omega) _ | refine Below.trans ?_ (Below.mono (by assumption) (by first | (simp; done) | (simp; omega) | omega)))
    obtain rfl : cut = 0 := by omega
    go_wp2_with fail
    refine (Sum_nil (tn x) (tn y) _).mono ?_
    rintro e w5 ⟨⟨r5, i5, rfl, er5, ei5⟩, hb5⟩
    have hz5 := hb5.size
    go_wp2_with fail
    refine wp_loop_rounds 1 ?_
    rw [rounds_succ]
    go_wp2_with fail
    have k5 := both (er3.trans er5.symm) (ei3.trans ei5.symm)
    go_wp2_with fail
    refine (Same_any _ _ _ _ _).mono ?_
    rintro e w' ⟨rfl, rfl⟩
    rw [k5]
    go_wp2
    go_ret
    refine ⟨rfl, ?_⟩
    repeat (first | exact Below.refl _ _ | assumption | exact Below.alloc (Below.refl _ _) (Nat.le_refl _) _ | refine Below.setCell ?_ (by first | (simp; done) | (simp; omega) | omega) _ | refine below_drewN ?_ _ | refine below_fw ?_ _ _ _ | refine below_sw ?_ _ | refine Below.alloc ?_ (by first | (simp; done) | (simp; omega) | omega) _ | refine Below.trans ?_ (Below.mono (by assumption) (by first | (simp; done) | (simp; omega) | omega)))
  · obtain ⟨q1, q2, q3⟩ := own_cells hown4
    rcases Int.lt_or_le cut 0 with h1 | h1
    · go_wp2
      go_ret
      refine ⟨rfl, ?_⟩
      repeat (first | exact Below.refl _ _ | assumption | exact Below.alloc (Below.refl _ _) (Nat.le_refl _) _ | refine Below.setCell ?_ (by first | (simp; done) | (simp; omega) | omega) _ | refine below_drewN ?_ _ | refine below_fw ?_ _ _ _ | refine below_sw ?_ _ | refine Below.alloc ?_ (by first | (simp; done) | (simp; omega) | omega) _ | refine Below.trans ?_ (Below.mono (by assumption) (by first | (simp; done) | (simp; omega) | omega)))
    rcases Int.lt_or_le (n : Int) cut with h2 | h2
    · go_wp2
      go_ret
      refine ⟨rfl, ?_⟩
      repeat (first | exact Below.refl _ _ | assumption | exact Below.alloc (Below.refl _ _) (Nat.le_refl _) _ | refine Below.setCell ?_ (by first | (simp; done) | (simp; omega) | omega) _ | refine below_drewN ?_ _ | refine below_fw ?_ _ _ _ | refine below_sw ?_ _ | refine Below.alloc ?_ (by first | (simp; done) | (simp; omega) | omega) _ | refine Below.trans ?_ (Below.mono (by assumption) (by first | (simp; done) | (simp; omega) | omega)))
    obtain ⟨m, rfl⟩ : ∃ m : Nat, cut = m := ⟨cut.toNat, by omega⟩
    have hm : m ≤ n := by omega
    have hmc : m ≤ cap := by omega
    go_wp2_with fail
    refine (Sum_any g 0 m cap (tn x) (tn y) _ q1 (by omega) (by omega) (fun k hk => q3 k (by omega))).mono ?_
    rintro e w5 ⟨⟨r5, i5, rfl, er5, ei5⟩, hb5⟩
    have hz5 := hb5.size
    have hz45 : w.heap.size ≤ w5.heap.size := by omega
    have q3b : ∀ k, k < n → w5.cell? ⟨g, 0 + k, none⟩ = some (.complex .f64 (tn x k) (tn y k)) := fun k hk => (hb5.cell (p := ⟨g, 0 + k, none⟩) q1).trans (q3 k hk)
    have hgw : g < w5.heap.size := by omega
    rcases (by omega : m = cap ∨ m < cap) with hcm | hcm
    · subst hcm
      go_wp2_with fail
      go_loopw [37, 7] (fun i t wr => ∃ k : Nat, k ≤ n - m ∧ i = .int .i64 k ∧ (∃ r j : Nat, t = .complex .f64 r j ∧ cn r = csum (tn x) (m + k) ∧ cn j = csum (tn y) (m + k)) ∧ Below w5.heap.size w5 wr) (fun i _ _ => n - m - (intOf i).toNat)
      case atStart => exact ⟨0, by omega, rfl, ⟨r5, i5, rfl, er5, ei5⟩, Below.refl _ _⟩
      case round =>
        obtain ⟨k, hk, rfl, ⟨r, j, rfl, er, ej⟩, hb⟩ := hrel
        obtain ⟨hcw, hfw⟩ := bcell hb
        by_cases hlt : k < n - m
        · exfalso; omega
        · obtain rfl : k = n - m := by omega
          have hz := hb.size
          have eq9 : m + (n - m) = n := by omega
          rw [eq9] at er ej
          have k9 := both (er3.trans er.symm) (ei3.trans ej.symm)
          go_wp2_with fail
          refine (Same_any _ _ _ _ _).mono ?_
          rintro e w' ⟨rfl, rfl⟩
          rw [k9]
          go_wp2
          go_ret
          refine ⟨rfl, ?_⟩
          repeat (first | exact Below.refl _ _ | assumption | exact Below.alloc (Below.refl _ _) (Nat.le_refl _) _ | refine Below.setCell ?_ (by first | (simp; done) | (simp; omega) | omega) _ | refine below_drewN ?_ _ | refine below_fw ?_ _ _ _ | refine below_sw ?_ _ | refine Below.alloc ?_ (by first | (simp; done) | (simp; omega) | omega) _ | refine Below.trans ?_ (Below.mono (by assumption) (by first | (simp; done) | (simp; omega) | omega)))
    · go_wp2_with fail
      go_loopw [37, 7] (fun i t wr => ∃ k : Nat, k ≤ n - m ∧ i = .int .i64 k ∧ (∃ r j : Nat, t = .complex .f64 r j ∧ cn r = csum (tn x) (m + k) ∧ cn j = csum (tn y) (m + k)) ∧ Below w5.heap.size w5 wr) (fun i _ _ => n - m - (intOf i).toNat)
      case atStart => exact ⟨0, by omega, rfl, ⟨r5, i5, rfl, er5, ei5⟩, Below.refl _ _⟩
      case round =>
        obtain ⟨k, hk, rfl, ⟨r, j, rfl, er, ej⟩, hb⟩ := hrel
        obtain ⟨hcw, hfw⟩ := bcell hb
        by_cases hlt : k < n - m
        · have ck := (hb.cell (p := ⟨g, 0 + (m + k), none⟩) hgw).trans (q3b (m + k) (by omega))
          rw [Nat.zero_add] at ck
          have ck5 := q3b (m + k) (by omega)
          rw [Nat.zero_add] at ck5
          have hz := hb.size
          go_wp2_with fail
          go_roundw
          case rel =>
            refine ⟨k + 1, by omega, by go_num, ⟨_, _, rfl, ?_, ?_⟩, ?_⟩
            · rw [cn_fr, er]; rfl
            · rw [cn_fr, ej]; rfl
            · repeat (first | exact Below.refl _ _ | assumption | exact Below.alloc (Below.refl _ _) (Nat.le_refl _) _ | refine Below.setCell ?_ (by first | (simp; done) | (simp; omega) | omega) _ | refine below_drewN ?_ _ | refine below_fw ?_ _ _ _ | refine below_sw ?_ _ | refine Below.alloc ?_ (by first | (simp; done) | (simp; omega) | omega) _ | refine Below.trans ?_ (Below.mono (by assumption) (by first | (simp; done) | (simp; omega) | omega)))
          case measure => simp [intOf] <;> omega
        · obtain rfl : k = n - m := by omega
          have hz := hb.size
          have eq9 : m + (n - m) = n := by omega
          rw [eq9] at er ej
          have k9 := both (er3.trans er.symm) (ei3.trans ej.symm)
          go_wp2_with fail
          refine (Same_any _ _ _ _ _).mono ?_
          rintro e w' ⟨rfl, rfl⟩
          rw [k9]
          go_wp2
          go_ret
          refine ⟨rfl, ?_⟩
          repeat (first | exact Below.refl _ _ | assumption | exact Below.alloc (Below.refl _ _) (Nat.le_refl _) _ | refine Below.setCell ?_ (by first | (simp; done) | (simp; omega) | omega) _ | refine below_drewN ?_ _ | refine below_fw ?_ _ _ _ | refine below_sw ?_ _ | refine Below.alloc ?_ (by first | (simp; done) | (simp; omega) | omega) _ | refine Below.trans ?_ (Below.mono (by assumption) (by first | (simp; done) | (simp; omega) | omega)))

end Go.Proofs.Ytiloleochmdfoaa
