/-
  The law CplxMemory, walked: it returns true.
-/
import Derived.Test.YtiloleochmdfoaaCxJ
namespace Go.Proofs.Ytiloleochmdfoaa
open Go.RowKit
attribute [local irreducible] World.setCell

set_option linter.unusedSimpArgs false
set_option linter.unusedVariables false

theorem own_q {w : World} {base n : Nat} {v : Value} {x y : Nat → Int} (h : w.ownsRow base 25 1 v n (CXL x y n)) : (v = .slice none 0 0 ∧ n = 0) ∨ ∃ b2 c2, v = .slice (some ⟨b2, 0, none⟩) n c2 ∧ b2 < w.heap.size ∧ n ≤ c2 ∧ ∀ k, k < n → w.cell? ⟨b2, 0 + k, none⟩ = some (.complex .f64 (tn x k) (tn y k)) := by
  rcases h.2 with h' | ⟨g, cap, cur, rfl, _⟩
  · exact .inl h'
  · obtain ⟨h1, h2, h3⟩ := own_cells h
    exact .inr ⟨g, cap, rfl, h1, h2, h3⟩
theorem own_slice {w : World} {base n : Nat} {v : Value} {xs : List Value} (h : w.ownsRow base 25 1 v n xs) : ∃ a c, v = .slice a n c := by
  rcases h.2 with ⟨rfl, rfl⟩ | ⟨g, cap, cur, rfl, _⟩ <;> exact ⟨_, _, rfl⟩
theorem full_cells {w : World} {base n : Nat} {v : Value} {x y : Nat → Int} {p q : Value} (h : w.ownsRow base 25 1 v (n + 2) (CXL x y n ++ [p, q])) : ∃ g cap, v = .slice (some ⟨g, 0, none⟩) (n + 2) cap ∧ base ≤ g ∧ g < w.heap.size ∧ n + 2 ≤ cap ∧ (∀ k, k < n → w.cell? ⟨g, 0 + k, none⟩ = some (.complex .f64 (tn x k) (tn y k))) ∧ w.cell? ⟨g, n, none⟩ = some p ∧ w.cell? ⟨g, n + 1, none⟩ = some q := by
  have hlen : (CXL x y n).length = n := by unfold CXL; simp
  rcases h.2 with ⟨_, h'⟩ | ⟨g, cap, cur, rfl, hb, hg, hc, _⟩
  · omega
  · refine ⟨g, cap, rfl, hb, (Array.getElem?_eq_some_iff.1 hg).1, hc, fun k hk => ?_, ?_, ?_⟩
    · rw [Nat.zero_add, h.cellAt k (by omega), List.getElem?_append_left (by omega), CXL_at x y n k hk]; rfl
    · rw [h.cellAt n (by omega), List.getElem?_append_right (by omega), hlen]; simp
    · rw [h.cellAt (n + 1) (by omega), List.getElem?_append_right (by omega), hlen]; simp
set_option maxHeartbeats 1600000 in
theorem memory_any (v0 : Value) (n : Nat) (x y : Nat → Int) (w : World) (h : ListIs w v0 n x y):
    Calls Try.prog 5 #[v0] w fun e w' => e = .returned (.bool true) ∧ Below w.heap.size w w' := by
  have hn := h.1
  obtain ⟨i0, hi, hq0, hq1, hq2⟩ := info_parts Try.info25
  have k41 : (FloatKind.f64.format.order 4630967054332067840 4630967054332067840 == some Ordering.eq) = true := by decide +kernel
  have k42 : (FloatKind.f64.format.order 4631107791820423168 4631107791820423168 == some Ordering.eq) = true := by decide +kernel
  have kz : zerop 0 = true := by decide +kernel
  go_enter Try.func5, Try.ntmps5
  go_wp2_with fail
  refine (awake_any _).mono ?_
  rintro e w1 ⟨rfl, hb1⟩
  obtain ⟨hc1, hf1⟩ := bcell hb1
  have hz1 := hb1.size
  try simp at hz1
  go_wp2_with fail
  refine (numbers_any (h.below (hb1.mono (Nat.le_refl _)))).mono ?_
  rintro e w2 ⟨v, rfl, hown, hb2⟩
  obtain ⟨sa, sc, rfl⟩ := own_slice hown
  have hz2 := hb2.size
  have hB2 : Below w.heap.size w w2 := hb1.trans (hb2.mono (by omega))
  go_wp2_with fail
  refine (numbers_any (h.below hB2)).mono ?_
  rintro e w3 ⟨u, rfl, hown3, hb3⟩
  have hz3 := hb3.size
  have hv3 := ownsRow_below hown hb3
  go_wp2_with (at_builtin; refine wpList_append_own _ rfl _ _ 45 rfl w2.heap.size 25 i0 (.complex .f64 0 0) 1 16 Try.underlying45 hi hq0 hq1 hq2 rfl (by decide) _ _ _ rfl (hown3.alloc _) ⟨w3.heap.size, 0, none⟩ 2 2 [.complex .f64 4630967054332067840 0, .complex .f64 4631107791820423168 0] rfl rfl ?c1 ?c2 ?c3 ?c4 ?c5 ?_)
  case c1 =>
    intro j u hj
    match j, hj with
    | 0, hj => simp at hj; subst hj; simp [Addr.add]
    | 1, hj => simp at hj; subst hj; simp [Addr.add]
  case c2 => intro u hu; simp at hu; rcases hu with rfl | rfl <;> rfl
  case c3 => unfold maxLen; omega
  case c4 => omega
  case c5 => simp; omega
  · intro v' w4 hown4 hgrow _
    have hz4 := hgrow.size
    simp at hz4
    have hv4 : w4.ownsRow w1.heap.size 25 1 (.slice sa n sc) n (CXL x y n) := (hv3.alloc _).kept hgrow (by
          cases hq : (Value.slice sa n sc).ownBlock with
          | none => exact .inl rfl
          | some k =>
            refine .inr (fun e => ?_)
            have a1 := owned_lt hown3 k e.symm
            have a2 : k < w2.heap.size := by
              rcases hown.2 with ⟨he, _⟩ | ⟨g, cap, cur, he, _, hg, _⟩
              · rw [he] at hq; cases hq
              · rw [he] at hq; cases hq; exact (Array.getElem?_eq_some_iff.1 hg).1
            omega)
    have hB4 : Below w.heap.size w w4 := Below.grown ((hB2.trans (hb3.mono (by omega))).alloc (by omega) _) hgrow (by simp; omega) (fun k e => by have := owned_lt hown3 k e; omega)
    obtain ⟨g, cap, rfl, hg1, hg2, hcap, hcl, hc41, hc42⟩ := full_cells hown4
    have hnc : n ≤ cap := by omega
    go_wp2_with fail
    refine (Sum_any g 0 n cap (tn x) (tn y) _ hg2 hnc (by omega) hcl).mono ?_
    rintro e w5 ⟨⟨r5, i5, rfl, er5, ei5⟩, hb5⟩
    have hz5 := hb5.size
    have hv5 := ownsRow_below hv4 hb5
    have hcl5 : ∀ k, k < n → w5.cell? ⟨g, 0 + k, none⟩ = some (.complex .f64 (tn x k) (tn y k)) := fun k hk => (hb5.cell (p := ⟨g, 0 + k, none⟩) hg2).trans (hcl k hk)
    go_wp2_with fail
    refine (Sum_any g 0 n cap (tn x) (tn y) _ (by omega) hnc (by omega) hcl5).mono ?_
    rintro e w6 ⟨⟨r6, i6, rfl, er6, ei6⟩, hb6⟩
    have hz6 := hb6.size
    have hv6 := ownsRow_below hv5 hb6
    go_wp2_with fail
    refine (rSum_own _ hn hv6).mono ?_
    rintro e w7 ⟨⟨r7, i7, rfl, er7, ei7⟩, hb7⟩
    have hz7 := hb7.size
    have hv7 := ownsRow_below hv6 hb7
    have k7 := both (er5.trans er7.symm) (ei5.trans ei7.symm)
    have k8 := both (er5.trans er6.symm) (ei5.trans ei6.symm)
    go_wp2_with fail
    refine (rSame_any _ _ _ _ _).mono ?_
    rintro e w' ⟨rfl, rfl⟩
    rw [k7]
    go_wp2_with fail
    refine (rSame_any _ _ _ _ _).mono ?_
    rintro e w' ⟨rfl, rfl⟩
    rw [k8]
    have hB7 : Below w4.heap.size w4 w7 := (hb5.trans (hb6.mono (by omega))).trans (hb7.mono (by omega))
    have hcl7 : ∀ k, k < n → w7.cell? ⟨g, 0 + k, none⟩ = some (.complex .f64 (tn x k) (tn y k)) := fun k hk => (hB7.cell (p := ⟨g, 0 + k, none⟩) hg2).trans (hcl k hk)
    go_wp2_with fail
    refine (SameAll_any g n cap _ (tn x) (tn y) _ (by omega) (by omega) hnc hcl7 (own_q hv7)).mono ?_
    rintro e w8 ⟨rfl, hb8⟩
    have hz8 := hb8.size
    have hB8 : Below w4.heap.size w4 w8 := hB7.trans (hb8.mono (by omega))
    have d41 := (hB8.cell (p := ⟨g, n, none⟩) hg2).trans hc41
    have d42 := (hB8.cell (p := ⟨g, n + 1, none⟩) hg2).trans hc42
    clear hc41 hc42
    go_wp2
    go_ret
    refine ⟨rfl, ?_⟩
    exact hB4.trans (hB8.mono (by omega))

theorem memory_arg {w : World} {v : Value} (h : ListArg w v) : Calls Try.prog 5 #[v] w fun e w' => e = .returned (.bool true) ∧ Below w.heap.size w w' := by
  obtain ⟨n, x, y, h'⟩ := h.is
  exact memory_any v n x y w h'
end Go.Proofs.Ytiloleochmdfoaa
