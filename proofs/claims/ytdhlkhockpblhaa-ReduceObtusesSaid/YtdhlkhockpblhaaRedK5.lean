/-
  DocShortest: one shortening, what it calls and what it keeps.
-/
import Derived.Test.YtdhlkhockpblhaaRedK2
import Derived.Test.YtdhlkhockpblhaaRedK3
import Derived.Test.YtdhlkhockpblhaaRedK4
namespace Go.Proofs.Ytdhlkhockpblhaa
open Go.RowKit
attribute [local irreducible] World.setCell

set_option linter.unusedSimpArgs false
set_option linter.unusedVariables false

def K01 (g : Met) : Prop := 2 * g.ab ≤ g.bb ∧ -(2 * g.ab) ≤ g.bb
def K02 (g : Met) : Prop := 2 * g.ac ≤ g.cc ∧ -(2 * g.ac) ≤ g.cc
def K10 (g : Met) : Prop := 2 * g.ab ≤ g.aa ∧ -(2 * g.ab) ≤ g.aa
def K12 (g : Met) : Prop := 2 * g.bc ≤ g.cc ∧ -(2 * g.bc) ≤ g.cc
def K20 (g : Met) : Prop := 2 * g.ac ≤ g.aa ∧ -(2 * g.ac) ≤ g.aa
def K21 (g : Met) : Prop := 2 * g.bc ≤ g.bb ∧ -(2 * g.bc) ≤ g.bb
def S00 (g : Met) : Prop := 0 ≤ g.bb + g.cc - 2 * g.ab - 2 * g.ac + 2 * g.bc
def S01 (g : Met) : Prop := 0 ≤ g.bb + g.cc + 2 * g.ab - 2 * g.ac - 2 * g.bc
def S02 (g : Met) : Prop := 0 ≤ g.bb + g.cc - 2 * g.ab + 2 * g.ac - 2 * g.bc
def S03 (g : Met) : Prop := 0 ≤ g.bb + g.cc + 2 * g.ab + 2 * g.ac + 2 * g.bc
def S10 (g : Met) : Prop := 0 ≤ g.cc + g.aa - 2 * g.bc - 2 * g.ab + 2 * g.ac
def S11 (g : Met) : Prop := 0 ≤ g.cc + g.aa + 2 * g.bc - 2 * g.ab - 2 * g.ac
def S12 (g : Met) : Prop := 0 ≤ g.cc + g.aa - 2 * g.bc + 2 * g.ab - 2 * g.ac
def S13 (g : Met) : Prop := 0 ≤ g.cc + g.aa + 2 * g.bc + 2 * g.ab + 2 * g.ac
def S20 (g : Met) : Prop := 0 ≤ g.aa + g.bb - 2 * g.ac - 2 * g.bc + 2 * g.ab
def S21 (g : Met) : Prop := 0 ≤ g.aa + g.bb + 2 * g.ac - 2 * g.bc - 2 * g.ab
def S22 (g : Met) : Prop := 0 ≤ g.aa + g.bb - 2 * g.ac + 2 * g.bc - 2 * g.ab
def S23 (g : Met) : Prop := 0 ≤ g.aa + g.bb + 2 * g.ac + 2 * g.bc + 2 * g.ab
theorem stepR_01 {m0 g : Met} (h : St m0 g) : ∃ r : Int, (-400000 ≤ r ∧ r ≤ 400000) ∧ (∀ w, Calls Try.prog 48 #[.int .i64 g.ab, .int .i64 g.bb] w fun e w' => e = .returned (.int .i64 r) ∧ Below w.heap.size w w') ∧ (∀ w, Calls Try.prog 49 #[.agg #[.int .i64 g.aa, .int .i64 g.ab, .int .i64 g.ac, .int .i64 g.ab, .int .i64 g.bb, .int .i64 g.bc, .int .i64 g.ac, .int .i64 g.bc, .int .i64 g.cc], .int .i64 0, .int .i64 1, .int .i64 (-r), .int .i64 1, .int .i64 0] w fun e w' => e = .returned (.bool (decide ((ad01 (-r) g).aa < g.aa))) ∧ Below w.heap.size w w') ∧ (∀ w, Calls Try.prog 50 #[.agg #[.int .i64 g.aa, .int .i64 g.ab, .int .i64 g.ac, .int .i64 g.ab, .int .i64 g.bb, .int .i64 g.bc, .int .i64 g.ac, .int .i64 g.bc, .int .i64 g.cc], .int .i64 0, .int .i64 1, .int .i64 (-r)] w fun e w' => e = .returned (.agg #[.int .i64 ((ad01 (-r) g).aa), .int .i64 ((ad01 (-r) g).ab), .int .i64 ((ad01 (-r) g).ac), .int .i64 ((ad01 (-r) g).ab), .int .i64 ((ad01 (-r) g).bb), .int .i64 ((ad01 (-r) g).bc), .int .i64 ((ad01 (-r) g).ac), .int .i64 ((ad01 (-r) g).bc), .int .i64 ((ad01 (-r) g).cc)]) ∧ Below w.heap.size w w') ∧ (r = 0 ∨ ¬ ((ad01 (-r) g).aa < g.aa) → K01 g) ∧ ((ad01 (-r) g).aa < g.aa → St m0 (ad01 (-r) g) ∧ tr3 (ad01 (-r) g) < tr3 g) := by
  have b := h.bd
  obtain ⟨b1, b2, b3, b4, b5, b6⟩ := b
  have nb := near_bd (a := g.ab) (b := g.bb) (by omega) (by omega) (by omega) (by omega)
  have ne := near_end (a := g.ab) (b := g.bb) (by omega)
  refine ⟨_, nb, fun w => round_c _ _ _ w (by omega) (by omega) (by omega) rfl, ?_⟩
  generalize (2 * g.ab + g.bb) / (2 * g.bb) = r at *
  obtain ⟨e1, c1⟩ := aw_eq01 (m := g) (n := -r) 300000 400000 (by omega) (by omega) (by omega) (by omega) (by omega) (by omega) (by omega) (by decide)
  obtain ⟨c1a, c1b, c1c, c1d, c1e, c1f⟩ := c1
  have e2 := (aw_eq01 (m := ad01 (-r) g) (n := 0) 60000000000000000 0 (by omega) (by omega) (by omega) (by omega) (by omega) (by omega) (by omega) (by decide)).1
  have z : ad01 0 (ad01 (-r) g) = ad01 (-r) g := by simp only [ad01, Int.zero_mul, Int.add_zero]
  refine ⟨fun w => ?_, fun w => ?_, ?_, ?_⟩
  · have t := better_011 g (-r) 0 w
    rw [e1, e2, z] at t
    exact t
  · have t := added_01 g (-r) w
    rw [e1] at t
    exact t
  · intro q
    refine ne ?_
    rcases q with q | q
    · exact Or.inl q
    · right
      simp only [ad01] at q
      omega
  · intro q
    refine ⟨⟨pd01 h.pd _, ?_, fun k hk => h.mn k (mn01 hk)⟩, ?_⟩
    · have t := h.tr
      unfold tr3 at *
      simp only [ad01] at q ⊢
      omega
    · unfold tr3
      simp only [ad01] at q ⊢
      omega
theorem stepR_02 {m0 g : Met} (h : St m0 g) : ∃ r : Int, (-400000 ≤ r ∧ r ≤ 400000) ∧ (∀ w, Calls Try.prog 48 #[.int .i64 g.ac, .int .i64 g.cc] w fun e w' => e = .returned (.int .i64 r) ∧ Below w.heap.size w w') ∧ (∀ w, Calls Try.prog 49 #[.agg #[.int .i64 g.aa, .int .i64 g.ab, .int .i64 g.ac, .int .i64 g.ab, .int .i64 g.bb, .int .i64 g.bc, .int .i64 g.ac, .int .i64 g.bc, .int .i64 g.cc], .int .i64 0, .int .i64 2, .int .i64 (-r), .int .i64 2, .int .i64 0] w fun e w' => e = .returned (.bool (decide ((ad02 (-r) g).aa < g.aa))) ∧ Below w.heap.size w w') ∧ (∀ w, Calls Try.prog 50 #[.agg #[.int .i64 g.aa, .int .i64 g.ab, .int .i64 g.ac, .int .i64 g.ab, .int .i64 g.bb, .int .i64 g.bc, .int .i64 g.ac, .int .i64 g.bc, .int .i64 g.cc], .int .i64 0, .int .i64 2, .int .i64 (-r)] w fun e w' => e = .returned (.agg #[.int .i64 ((ad02 (-r) g).aa), .int .i64 ((ad02 (-r) g).ab), .int .i64 ((ad02 (-r) g).ac), .int .i64 ((ad02 (-r) g).ab), .int .i64 ((ad02 (-r) g).bb), .int .i64 ((ad02 (-r) g).bc), .int .i64 ((ad02 (-r) g).ac), .int .i64 ((ad02 (-r) g).bc), .int .i64 ((ad02 (-r) g).cc)]) ∧ Below w.heap.size w w') ∧ (r = 0 ∨ ¬ ((ad02 (-r) g).aa < g.aa) → K02 g) ∧ ((ad02 (-r) g).aa < g.aa → St m0 (ad02 (-r) g) ∧ tr3 (ad02 (-r) g) < tr3 g) := by
  have b := h.bd
  obtain ⟨b1, b2, b3, b4, b5, b6⟩ := b
  have nb := near_bd (a := g.ac) (b := g.cc) (by omega) (by omega) (by omega) (by omega)
  have ne := near_end (a := g.ac) (b := g.cc) (by omega)
  refine ⟨_, nb, fun w => round_c _ _ _ w (by omega) (by omega) (by omega) rfl, ?_⟩
  generalize (2 * g.ac + g.cc) / (2 * g.cc) = r at *
  obtain ⟨e1, c1⟩ := aw_eq02 (m := g) (n := -r) 300000 400000 (by omega) (by omega) (by omega) (by omega) (by omega) (by omega) (by omega) (by decide)
  obtain ⟨c1a, c1b, c1c, c1d, c1e, c1f⟩ := c1
  have e2 := (aw_eq02 (m := ad02 (-r) g) (n := 0) 60000000000000000 0 (by omega) (by omega) (by omega) (by omega) (by omega) (by omega) (by omega) (by decide)).1
  have z : ad02 0 (ad02 (-r) g) = ad02 (-r) g := by simp only [ad02, Int.zero_mul, Int.add_zero]
  refine ⟨fun w => ?_, fun w => ?_, ?_, ?_⟩
  · have t := better_022 g (-r) 0 w
    rw [e1, e2, z] at t
    exact t
  · have t := added_02 g (-r) w
    rw [e1] at t
    exact t
  · intro q
    refine ne ?_
    rcases q with q | q
    · exact Or.inl q
    · right
      simp only [ad02] at q
      omega
  · intro q
    refine ⟨⟨pd02 h.pd _, ?_, fun k hk => h.mn k (mn02 hk)⟩, ?_⟩
    · have t := h.tr
      unfold tr3 at *
      simp only [ad02] at q ⊢
      omega
    · unfold tr3
      simp only [ad02] at q ⊢
      omega
theorem stepR_10 {m0 g : Met} (h : St m0 g) : ∃ r : Int, (-400000 ≤ r ∧ r ≤ 400000) ∧ (∀ w, Calls Try.prog 48 #[.int .i64 g.ab, .int .i64 g.aa] w fun e w' => e = .returned (.int .i64 r) ∧ Below w.heap.size w w') ∧ (∀ w, Calls Try.prog 49 #[.agg #[.int .i64 g.aa, .int .i64 g.ab, .int .i64 g.ac, .int .i64 g.ab, .int .i64 g.bb, .int .i64 g.bc, .int .i64 g.ac, .int .i64 g.bc, .int .i64 g.cc], .int .i64 1, .int .i64 0, .int .i64 (-r), .int .i64 0, .int .i64 0] w fun e w' => e = .returned (.bool (decide ((ad10 (-r) g).bb < g.bb))) ∧ Below w.heap.size w w') ∧ (∀ w, Calls Try.prog 50 #[.agg #[.int .i64 g.aa, .int .i64 g.ab, .int .i64 g.ac, .int .i64 g.ab, .int .i64 g.bb, .int .i64 g.bc, .int .i64 g.ac, .int .i64 g.bc, .int .i64 g.cc], .int .i64 1, .int .i64 0, .int .i64 (-r)] w fun e w' => e = .returned (.agg #[.int .i64 ((ad10 (-r) g).aa), .int .i64 ((ad10 (-r) g).ab), .int .i64 ((ad10 (-r) g).ac), .int .i64 ((ad10 (-r) g).ab), .int .i64 ((ad10 (-r) g).bb), .int .i64 ((ad10 (-r) g).bc), .int .i64 ((ad10 (-r) g).ac), .int .i64 ((ad10 (-r) g).bc), .int .i64 ((ad10 (-r) g).cc)]) ∧ Below w.heap.size w w') ∧ (r = 0 ∨ ¬ ((ad10 (-r) g).bb < g.bb) → K10 g) ∧ ((ad10 (-r) g).bb < g.bb → St m0 (ad10 (-r) g) ∧ tr3 (ad10 (-r) g) < tr3 g) := by
  have b := h.bd
  obtain ⟨b1, b2, b3, b4, b5, b6⟩ := b
  have nb := near_bd (a := g.ab) (b := g.aa) (by omega) (by omega) (by omega) (by omega)
  have ne := near_end (a := g.ab) (b := g.aa) (by omega)
  refine ⟨_, nb, fun w => round_c _ _ _ w (by omega) (by omega) (by omega) rfl, ?_⟩
  generalize (2 * g.ab + g.aa) / (2 * g.aa) = r at *
  obtain ⟨e1, c1⟩ := aw_eq10 (m := g) (n := -r) 300000 400000 (by omega) (by omega) (by omega) (by omega) (by omega) (by omega) (by omega) (by decide)
  obtain ⟨c1a, c1b, c1c, c1d, c1e, c1f⟩ := c1
  have e2 := (aw_eq10 (m := ad10 (-r) g) (n := 0) 60000000000000000 0 (by omega) (by omega) (by omega) (by omega) (by omega) (by omega) (by omega) (by decide)).1
  have z : ad10 0 (ad10 (-r) g) = ad10 (-r) g := by simp only [ad10, Int.zero_mul, Int.add_zero]
  refine ⟨fun w => ?_, fun w => ?_, ?_, ?_⟩
  · have t := better_100 g (-r) 0 w
    rw [e1, e2, z] at t
    exact t
  · have t := added_10 g (-r) w
    rw [e1] at t
    exact t
  · intro q
    refine ne ?_
    rcases q with q | q
    · exact Or.inl q
    · right
      simp only [ad10] at q
      omega
  · intro q
    refine ⟨⟨pd10 h.pd _, ?_, fun k hk => h.mn k (mn10 hk)⟩, ?_⟩
    · have t := h.tr
      unfold tr3 at *
      simp only [ad10] at q ⊢
      omega
    · unfold tr3
      simp only [ad10] at q ⊢
      omega
theorem stepR_12 {m0 g : Met} (h : St m0 g) : ∃ r : Int, (-400000 ≤ r ∧ r ≤ 400000) ∧ (∀ w, Calls Try.prog 48 #[.int .i64 g.bc, .int .i64 g.cc] w fun e w' => e = .returned (.int .i64 r) ∧ Below w.heap.size w w') ∧ (∀ w, Calls Try.prog 49 #[.agg #[.int .i64 g.aa, .int .i64 g.ab, .int .i64 g.ac, .int .i64 g.ab, .int .i64 g.bb, .int .i64 g.bc, .int .i64 g.ac, .int .i64 g.bc, .int .i64 g.cc], .int .i64 1, .int .i64 2, .int .i64 (-r), .int .i64 2, .int .i64 0] w fun e w' => e = .returned (.bool (decide ((ad12 (-r) g).bb < g.bb))) ∧ Below w.heap.size w w') ∧ (∀ w, Calls Try.prog 50 #[.agg #[.int .i64 g.aa, .int .i64 g.ab, .int .i64 g.ac, .int .i64 g.ab, .int .i64 g.bb, .int .i64 g.bc, .int .i64 g.ac, .int .i64 g.bc, .int .i64 g.cc], .int .i64 1, .int .i64 2, .int .i64 (-r)] w fun e w' => e = .returned (.agg #[.int .i64 ((ad12 (-r) g).aa), .int .i64 ((ad12 (-r) g).ab), .int .i64 ((ad12 (-r) g).ac), .int .i64 ((ad12 (-r) g).ab), .int .i64 ((ad12 (-r) g).bb), .int .i64 ((ad12 (-r) g).bc), .int .i64 ((ad12 (-r) g).ac), .int .i64 ((ad12 (-r) g).bc), .int .i64 ((ad12 (-r) g).cc)]) ∧ Below w.heap.size w w') ∧ (r = 0 ∨ ¬ ((ad12 (-r) g).bb < g.bb) → K12 g) ∧ ((ad12 (-r) g).bb < g.bb → St m0 (ad12 (-r) g) ∧ tr3 (ad12 (-r) g) < tr3 g) := by
  have b := h.bd
  obtain ⟨b1, b2, b3, b4, b5, b6⟩ := b
  have nb := near_bd (a := g.bc) (b := g.cc) (by omega) (by omega) (by omega) (by omega)
  have ne := near_end (a := g.bc) (b := g.cc) (by omega)
  refine ⟨_, nb, fun w => round_c _ _ _ w (by omega) (by omega) (by omega) rfl, ?_⟩
  generalize (2 * g.bc + g.cc) / (2 * g.cc) = r at *
  obtain ⟨e1, c1⟩ := aw_eq12 (m := g) (n := -r) 300000 400000 (by omega) (by omega) (by omega) (by omega) (by omega) (by omega) (by omega) (by decide)
  obtain ⟨c1a, c1b, c1c, c1d, c1e, c1f⟩ := c1
  have e2 := (aw_eq12 (m := ad12 (-r) g) (n := 0) 60000000000000000 0 (by omega) (by omega) (by omega) (by omega) (by omega) (by omega) (by omega) (by decide)).1
  have z : ad12 0 (ad12 (-r) g) = ad12 (-r) g := by simp only [ad12, Int.zero_mul, Int.add_zero]
  refine ⟨fun w => ?_, fun w => ?_, ?_, ?_⟩
  · have t := better_122 g (-r) 0 w
    rw [e1, e2, z] at t
    exact t
  · have t := added_12 g (-r) w
    rw [e1] at t
    exact t
  · intro q
    refine ne ?_
    rcases q with q | q
    · exact Or.inl q
    · right
      simp only [ad12] at q
      omega
  · intro q
    refine ⟨⟨pd12 h.pd _, ?_, fun k hk => h.mn k (mn12 hk)⟩, ?_⟩
    · have t := h.tr
      unfold tr3 at *
      simp only [ad12] at q ⊢
      omega
    · unfold tr3
      simp only [ad12] at q ⊢
      omega
theorem stepR_20 {m0 g : Met} (h : St m0 g) : ∃ r : Int, (-400000 ≤ r ∧ r ≤ 400000) ∧ (∀ w, Calls Try.prog 48 #[.int .i64 g.ac, .int .i64 g.aa] w fun e w' => e = .returned (.int .i64 r) ∧ Below w.heap.size w w') ∧ (∀ w, Calls Try.prog 49 #[.agg #[.int .i64 g.aa, .int .i64 g.ab, .int .i64 g.ac, .int .i64 g.ab, .int .i64 g.bb, .int .i64 g.bc, .int .i64 g.ac, .int .i64 g.bc, .int .i64 g.cc], .int .i64 2, .int .i64 0, .int .i64 (-r), .int .i64 0, .int .i64 0] w fun e w' => e = .returned (.bool (decide ((ad20 (-r) g).cc < g.cc))) ∧ Below w.heap.size w w') ∧ (∀ w, Calls Try.prog 50 #[.agg #[.int .i64 g.aa, .int .i64 g.ab, .int .i64 g.ac, .int .i64 g.ab, .int .i64 g.bb, .int .i64 g.bc, .int .i64 g.ac, .int .i64 g.bc, .int .i64 g.cc], .int .i64 2, .int .i64 0, .int .i64 (-r)] w fun e w' => e = .returned (.agg #[.int .i64 ((ad20 (-r) g).aa), .int .i64 ((ad20 (-r) g).ab), .int .i64 ((ad20 (-r) g).ac), .int .i64 ((ad20 (-r) g).ab), .int .i64 ((ad20 (-r) g).bb), .int .i64 ((ad20 (-r) g).bc), .int .i64 ((ad20 (-r) g).ac), .int .i64 ((ad20 (-r) g).bc), .int .i64 ((ad20 (-r) g).cc)]) ∧ Below w.heap.size w w') ∧ (r = 0 ∨ ¬ ((ad20 (-r) g).cc < g.cc) → K20 g) ∧ ((ad20 (-r) g).cc < g.cc → St m0 (ad20 (-r) g) ∧ tr3 (ad20 (-r) g) < tr3 g) := by
  have b := h.bd
  obtain ⟨b1, b2, b3, b4, b5, b6⟩ := b
  have nb := near_bd (a := g.ac) (b := g.aa) (by omega) (by omega) (by omega) (by omega)
  have ne := near_end (a := g.ac) (b := g.aa) (by omega)
  refine ⟨_, nb, fun w => round_c _ _ _ w (by omega) (by omega) (by omega) rfl, ?_⟩
  generalize (2 * g.ac + g.aa) / (2 * g.aa) = r at *
  obtain ⟨e1, c1⟩ := aw_eq20 (m := g) (n := -r) 300000 400000 (by omega) (by omega) (by omega) (by omega) (by omega) (by omega) (by omega) (by decide)
  obtain ⟨c1a, c1b, c1c, c1d, c1e, c1f⟩ := c1
  have e2 := (aw_eq20 (m := ad20 (-r) g) (n := 0) 60000000000000000 0 (by omega) (by omega) (by omega) (by omega) (by omega) (by omega) (by omega) (by decide)).1
  have z : ad20 0 (ad20 (-r) g) = ad20 (-r) g := by simp only [ad20, Int.zero_mul, Int.add_zero]
  refine ⟨fun w => ?_, fun w => ?_, ?_, ?_⟩
  · have t := better_200 g (-r) 0 w
    rw [e1, e2, z] at t
    exact t
  · have t := added_20 g (-r) w
    rw [e1] at t
    exact t
  · intro q
    refine ne ?_
    rcases q with q | q
    · exact Or.inl q
    · right
      simp only [ad20] at q
      omega
  · intro q
    refine ⟨⟨pd20 h.pd _, ?_, fun k hk => h.mn k (mn20 hk)⟩, ?_⟩
    · have t := h.tr
      unfold tr3 at *
      simp only [ad20] at q ⊢
      omega
    · unfold tr3
      simp only [ad20] at q ⊢
      omega
theorem stepR_21 {m0 g : Met} (h : St m0 g) : ∃ r : Int, (-400000 ≤ r ∧ r ≤ 400000) ∧ (∀ w, Calls Try.prog 48 #[.int .i64 g.bc, .int .i64 g.bb] w fun e w' => e = .returned (.int .i64 r) ∧ Below w.heap.size w w') ∧ (∀ w, Calls Try.prog 49 #[.agg #[.int .i64 g.aa, .int .i64 g.ab, .int .i64 g.ac, .int .i64 g.ab, .int .i64 g.bb, .int .i64 g.bc, .int .i64 g.ac, .int .i64 g.bc, .int .i64 g.cc], .int .i64 2, .int .i64 1, .int .i64 (-r), .int .i64 1, .int .i64 0] w fun e w' => e = .returned (.bool (decide ((ad21 (-r) g).cc < g.cc))) ∧ Below w.heap.size w w') ∧ (∀ w, Calls Try.prog 50 #[.agg #[.int .i64 g.aa, .int .i64 g.ab, .int .i64 g.ac, .int .i64 g.ab, .int .i64 g.bb, .int .i64 g.bc, .int .i64 g.ac, .int .i64 g.bc, .int .i64 g.cc], .int .i64 2, .int .i64 1, .int .i64 (-r)] w fun e w' => e = .returned (.agg #[.int .i64 ((ad21 (-r) g).aa), .int .i64 ((ad21 (-r) g).ab), .int .i64 ((ad21 (-r) g).ac), .int .i64 ((ad21 (-r) g).ab), .int .i64 ((ad21 (-r) g).bb), .int .i64 ((ad21 (-r) g).bc), .int .i64 ((ad21 (-r) g).ac), .int .i64 ((ad21 (-r) g).bc), .int .i64 ((ad21 (-r) g).cc)]) ∧ Below w.heap.size w w') ∧ (r = 0 ∨ ¬ ((ad21 (-r) g).cc < g.cc) → K21 g) ∧ ((ad21 (-r) g).cc < g.cc → St m0 (ad21 (-r) g) ∧ tr3 (ad21 (-r) g) < tr3 g) := by
  have b := h.bd
  obtain ⟨b1, b2, b3, b4, b5, b6⟩ := b
  have nb := near_bd (a := g.bc) (b := g.bb) (by omega) (by omega) (by omega) (by omega)
  have ne := near_end (a := g.bc) (b := g.bb) (by omega)
  refine ⟨_, nb, fun w => round_c _ _ _ w (by omega) (by omega) (by omega) rfl, ?_⟩
  generalize (2 * g.bc + g.bb) / (2 * g.bb) = r at *
  obtain ⟨e1, c1⟩ := aw_eq21 (m := g) (n := -r) 300000 400000 (by omega) (by omega) (by omega) (by omega) (by omega) (by omega) (by omega) (by decide)
  obtain ⟨c1a, c1b, c1c, c1d, c1e, c1f⟩ := c1
  have e2 := (aw_eq21 (m := ad21 (-r) g) (n := 0) 60000000000000000 0 (by omega) (by omega) (by omega) (by omega) (by omega) (by omega) (by omega) (by decide)).1
  have z : ad21 0 (ad21 (-r) g) = ad21 (-r) g := by simp only [ad21, Int.zero_mul, Int.add_zero]
  refine ⟨fun w => ?_, fun w => ?_, ?_, ?_⟩
  · have t := better_211 g (-r) 0 w
    rw [e1, e2, z] at t
    exact t
  · have t := added_21 g (-r) w
    rw [e1] at t
    exact t
  · intro q
    refine ne ?_
    rcases q with q | q
    · exact Or.inl q
    · right
      simp only [ad21] at q
      omega
  · intro q
    refine ⟨⟨pd21 h.pd _, ?_, fun k hk => h.mn k (mn21 hk)⟩, ?_⟩
    · have t := h.tr
      unfold tr3 at *
      simp only [ad21] at q ⊢
      omega
    · unfold tr3
      simp only [ad21] at q ⊢
      omega
theorem stepS_00 {m0 g : Met} (h : St m0 g) : (∀ w, Calls Try.prog 49 #[.agg #[.int .i64 g.aa, .int .i64 g.ab, .int .i64 g.ac, .int .i64 g.ab, .int .i64 g.bb, .int .i64 g.bc, .int .i64 g.ac, .int .i64 g.bc, .int .i64 g.cc], .int .i64 0, .int .i64 1, .int .i64 (-1), .int .i64 2, .int .i64 (-1)] w fun e w' => e = .returned (.bool (decide ((ad02 (-1) (ad01 (-1) g)).aa < g.aa))) ∧ Below w.heap.size w w') ∧ (∀ w, Calls Try.prog 50 #[.agg #[.int .i64 g.aa, .int .i64 g.ab, .int .i64 g.ac, .int .i64 g.ab, .int .i64 g.bb, .int .i64 g.bc, .int .i64 g.ac, .int .i64 g.bc, .int .i64 g.cc], .int .i64 0, .int .i64 1, .int .i64 (-1)] w fun e w' => e = .returned (.agg #[.int .i64 ((ad01 (-1) g).aa), .int .i64 ((ad01 (-1) g).ab), .int .i64 ((ad01 (-1) g).ac), .int .i64 ((ad01 (-1) g).ab), .int .i64 ((ad01 (-1) g).bb), .int .i64 ((ad01 (-1) g).bc), .int .i64 ((ad01 (-1) g).ac), .int .i64 ((ad01 (-1) g).bc), .int .i64 ((ad01 (-1) g).cc)]) ∧ Below w.heap.size w w') ∧ (∀ w, Calls Try.prog 50 #[.agg #[.int .i64 ((ad01 (-1) g).aa), .int .i64 ((ad01 (-1) g).ab), .int .i64 ((ad01 (-1) g).ac), .int .i64 ((ad01 (-1) g).ab), .int .i64 ((ad01 (-1) g).bb), .int .i64 ((ad01 (-1) g).bc), .int .i64 ((ad01 (-1) g).ac), .int .i64 ((ad01 (-1) g).bc), .int .i64 ((ad01 (-1) g).cc)], .int .i64 0, .int .i64 2, .int .i64 (-1)] w fun e w' => e = .returned (.agg #[.int .i64 ((ad02 (-1) (ad01 (-1) g)).aa), .int .i64 ((ad02 (-1) (ad01 (-1) g)).ab), .int .i64 ((ad02 (-1) (ad01 (-1) g)).ac), .int .i64 ((ad02 (-1) (ad01 (-1) g)).ab), .int .i64 ((ad02 (-1) (ad01 (-1) g)).bb), .int .i64 ((ad02 (-1) (ad01 (-1) g)).bc), .int .i64 ((ad02 (-1) (ad01 (-1) g)).ac), .int .i64 ((ad02 (-1) (ad01 (-1) g)).bc), .int .i64 ((ad02 (-1) (ad01 (-1) g)).cc)]) ∧ Below w.heap.size w w') ∧ (¬ ((ad02 (-1) (ad01 (-1) g)).aa < g.aa) → S00 g) ∧ ((ad02 (-1) (ad01 (-1) g)).aa < g.aa → St m0 (ad02 (-1) (ad01 (-1) g)) ∧ tr3 (ad02 (-1) (ad01 (-1) g)) < tr3 g) := by
  have b := h.bd
  obtain ⟨b1, b2, b3, b4, b5, b6⟩ := b
  obtain ⟨e1, c1⟩ := aw_eq01 (m := g) (n := (-1)) 300000 1 (by omega) (by omega) (by omega) (by omega) (by omega) (by omega) (by omega) (by decide)
  obtain ⟨c1a, c1b, c1c, c1d, c1e, c1f⟩ := c1
  have e2 := (aw_eq02 (m := (ad01 (-1) g)) (n := (-1)) 2000000 1 (by omega) (by omega) (by omega) (by omega) (by omega) (by omega) (by omega) (by decide)).1
  refine ⟨fun w => ?_, fun w => ?_, fun w => ?_, ?_, ?_⟩
  · have t := better_012 g (-1) (-1) w
    rw [e1, e2] at t
    exact t
  · have t := added_01 g (-1) w
    rw [e1] at t
    exact t
  · have t := added_02 (ad01 (-1) g) (-1) w
    rw [e2] at t
    exact t
  · intro q
    unfold S00
    simp only [ad01, ad02] at q
    omega
  · intro q
    refine ⟨⟨pd02 (pd01 h.pd _) _, ?_, fun k hk => h.mn k (mn01 (mn02 hk))⟩, ?_⟩
    · have t := h.tr
      unfold tr3 at *
      simp only [ad01, ad02] at q ⊢
      omega
    · unfold tr3
      simp only [ad01, ad02] at q ⊢
      omega
theorem stepS_01 {m0 g : Met} (h : St m0 g) : (∀ w, Calls Try.prog 49 #[.agg #[.int .i64 g.aa, .int .i64 g.ab, .int .i64 g.ac, .int .i64 g.ab, .int .i64 g.bb, .int .i64 g.bc, .int .i64 g.ac, .int .i64 g.bc, .int .i64 g.cc], .int .i64 0, .int .i64 1, .int .i64 1, .int .i64 2, .int .i64 (-1)] w fun e w' => e = .returned (.bool (decide ((ad02 (-1) (ad01 (1) g)).aa < g.aa))) ∧ Below w.heap.size w w') ∧ (∀ w, Calls Try.prog 50 #[.agg #[.int .i64 g.aa, .int .i64 g.ab, .int .i64 g.ac, .int .i64 g.ab, .int .i64 g.bb, .int .i64 g.bc, .int .i64 g.ac, .int .i64 g.bc, .int .i64 g.cc], .int .i64 0, .int .i64 1, .int .i64 1] w fun e w' => e = .returned (.agg #[.int .i64 ((ad01 (1) g).aa), .int .i64 ((ad01 (1) g).ab), .int .i64 ((ad01 (1) g).ac), .int .i64 ((ad01 (1) g).ab), .int .i64 ((ad01 (1) g).bb), .int .i64 ((ad01 (1) g).bc), .int .i64 ((ad01 (1) g).ac), .int .i64 ((ad01 (1) g).bc), .int .i64 ((ad01 (1) g).cc)]) ∧ Below w.heap.size w w') ∧ (∀ w, Calls Try.prog 50 #[.agg #[.int .i64 ((ad01 (1) g).aa), .int .i64 ((ad01 (1) g).ab), .int .i64 ((ad01 (1) g).ac), .int .i64 ((ad01 (1) g).ab), .int .i64 ((ad01 (1) g).bb), .int .i64 ((ad01 (1) g).bc), .int .i64 ((ad01 (1) g).ac), .int .i64 ((ad01 (1) g).bc), .int .i64 ((ad01 (1) g).cc)], .int .i64 0, .int .i64 2, .int .i64 (-1)] w fun e w' => e = .returned (.agg #[.int .i64 ((ad02 (-1) (ad01 (1) g)).aa), .int .i64 ((ad02 (-1) (ad01 (1) g)).ab), .int .i64 ((ad02 (-1) (ad01 (1) g)).ac), .int .i64 ((ad02 (-1) (ad01 (1) g)).ab), .int .i64 ((ad02 (-1) (ad01 (1) g)).bb), .int .i64 ((ad02 (-1) (ad01 (1) g)).bc), .int .i64 ((ad02 (-1) (ad01 (1) g)).ac), .int .i64 ((ad02 (-1) (ad01 (1) g)).bc), .int .i64 ((ad02 (-1) (ad01 (1) g)).cc)]) ∧ Below w.heap.size w w') ∧ (¬ ((ad02 (-1) (ad01 (1) g)).aa < g.aa) → S01 g) ∧ ((ad02 (-1) (ad01 (1) g)).aa < g.aa → St m0 (ad02 (-1) (ad01 (1) g)) ∧ tr3 (ad02 (-1) (ad01 (1) g)) < tr3 g) := by
  have b := h.bd
  obtain ⟨b1, b2, b3, b4, b5, b6⟩ := b
  obtain ⟨e1, c1⟩ := aw_eq01 (m := g) (n := (1)) 300000 1 (by omega) (by omega) (by omega) (by omega) (by omega) (by omega) (by omega) (by decide)
  obtain ⟨c1a, c1b, c1c, c1d, c1e, c1f⟩ := c1
  have e2 := (aw_eq02 (m := (ad01 (1) g)) (n := (-1)) 2000000 1 (by omega) (by omega) (by omega) (by omega) (by omega) (by omega) (by omega) (by decide)).1
  refine ⟨fun w => ?_, fun w => ?_, fun w => ?_, ?_, ?_⟩
  · have t := better_012 g (1) (-1) w
    rw [e1, e2] at t
    exact t
  · have t := added_01 g (1) w
    rw [e1] at t
    exact t
  · have t := added_02 (ad01 (1) g) (-1) w
    rw [e2] at t
    exact t
  · intro q
    unfold S01
    simp only [ad01, ad02] at q
    omega
  · intro q
    refine ⟨⟨pd02 (pd01 h.pd _) _, ?_, fun k hk => h.mn k (mn01 (mn02 hk))⟩, ?_⟩
    · have t := h.tr
      unfold tr3 at *
      simp only [ad01, ad02] at q ⊢
      omega
    · unfold tr3
      simp only [ad01, ad02] at q ⊢
      omega
theorem stepS_02 {m0 g : Met} (h : St m0 g) : (∀ w, Calls Try.prog 49 #[.agg #[.int .i64 g.aa, .int .i64 g.ab, .int .i64 g.ac, .int .i64 g.ab, .int .i64 g.bb, .int .i64 g.bc, .int .i64 g.ac, .int .i64 g.bc, .int .i64 g.cc], .int .i64 0, .int .i64 1, .int .i64 (-1), .int .i64 2, .int .i64 1] w fun e w' => e = .returned (.bool (decide ((ad02 (1) (ad01 (-1) g)).aa < g.aa))) ∧ Below w.heap.size w w') ∧ (∀ w, Calls Try.prog 50 #[.agg #[.int .i64 g.aa, .int .i64 g.ab, .int .i64 g.ac, .int .i64 g.ab, .int .i64 g.bb, .int .i64 g.bc, .int .i64 g.ac, .int .i64 g.bc, .int .i64 g.cc], .int .i64 0, .int .i64 1, .int .i64 (-1)] w fun e w' => e = .returned (.agg #[.int .i64 ((ad01 (-1) g).aa), .int .i64 ((ad01 (-1) g).ab), .int .i64 ((ad01 (-1) g).ac), .int .i64 ((ad01 (-1) g).ab), .int .i64 ((ad01 (-1) g).bb), .int .i64 ((ad01 (-1) g).bc), .int .i64 ((ad01 (-1) g).ac), .int .i64 ((ad01 (-1) g).bc), .int .i64 ((ad01 (-1) g).cc)]) ∧ Below w.heap.size w w') ∧ (∀ w, Calls Try.prog 50 #[.agg #[.int .i64 ((ad01 (-1) g).aa), .int .i64 ((ad01 (-1) g).ab), .int .i64 ((ad01 (-1) g).ac), .int .i64 ((ad01 (-1) g).ab), .int .i64 ((ad01 (-1) g).bb), .int .i64 ((ad01 (-1) g).bc), .int .i64 ((ad01 (-1) g).ac), .int .i64 ((ad01 (-1) g).bc), .int .i64 ((ad01 (-1) g).cc)], .int .i64 0, .int .i64 2, .int .i64 1] w fun e w' => e = .returned (.agg #[.int .i64 ((ad02 (1) (ad01 (-1) g)).aa), .int .i64 ((ad02 (1) (ad01 (-1) g)).ab), .int .i64 ((ad02 (1) (ad01 (-1) g)).ac), .int .i64 ((ad02 (1) (ad01 (-1) g)).ab), .int .i64 ((ad02 (1) (ad01 (-1) g)).bb), .int .i64 ((ad02 (1) (ad01 (-1) g)).bc), .int .i64 ((ad02 (1) (ad01 (-1) g)).ac), .int .i64 ((ad02 (1) (ad01 (-1) g)).bc), .int .i64 ((ad02 (1) (ad01 (-1) g)).cc)]) ∧ Below w.heap.size w w') ∧ (¬ ((ad02 (1) (ad01 (-1) g)).aa < g.aa) → S02 g) ∧ ((ad02 (1) (ad01 (-1) g)).aa < g.aa → St m0 (ad02 (1) (ad01 (-1) g)) ∧ tr3 (ad02 (1) (ad01 (-1) g)) < tr3 g) := by
  have b := h.bd
  obtain ⟨b1, b2, b3, b4, b5, b6⟩ := b
  obtain ⟨e1, c1⟩ := aw_eq01 (m := g) (n := (-1)) 300000 1 (by omega) (by omega) (by omega) (by omega) (by omega) (by omega) (by omega) (by decide)
  obtain ⟨c1a, c1b, c1c, c1d, c1e, c1f⟩ := c1
  have e2 := (aw_eq02 (m := (ad01 (-1) g)) (n := (1)) 2000000 1 (by omega) (by omega) (by omega) (by omega) (by omega) (by omega) (by omega) (by decide)).1
  refine ⟨fun w => ?_, fun w => ?_, fun w => ?_, ?_, ?_⟩
  · have t := better_012 g (-1) (1) w
    rw [e1, e2] at t
    exact t
  · have t := added_01 g (-1) w
    rw [e1] at t
    exact t
  · have t := added_02 (ad01 (-1) g) (1) w
    rw [e2] at t
    exact t
  · intro q
    unfold S02
    simp only [ad01, ad02] at q
    omega
  · intro q
    refine ⟨⟨pd02 (pd01 h.pd _) _, ?_, fun k hk => h.mn k (mn01 (mn02 hk))⟩, ?_⟩
    · have t := h.tr
      unfold tr3 at *
      simp only [ad01, ad02] at q ⊢
      omega
    · unfold tr3
      simp only [ad01, ad02] at q ⊢
      omega
theorem stepS_03 {m0 g : Met} (h : St m0 g) : (∀ w, Calls Try.prog 49 #[.agg #[.int .i64 g.aa, .int .i64 g.ab, .int .i64 g.ac, .int .i64 g.ab, .int .i64 g.bb, .int .i64 g.bc, .int .i64 g.ac, .int .i64 g.bc, .int .i64 g.cc], .int .i64 0, .int .i64 1, .int .i64 1, .int .i64 2, .int .i64 1] w fun e w' => e = .returned (.bool (decide ((ad02 (1) (ad01 (1) g)).aa < g.aa))) ∧ Below w.heap.size w w') ∧ (∀ w, Calls Try.prog 50 #[.agg #[.int .i64 g.aa, .int .i64 g.ab, .int .i64 g.ac, .int .i64 g.ab, .int .i64 g.bb, .int .i64 g.bc, .int .i64 g.ac, .int .i64 g.bc, .int .i64 g.cc], .int .i64 0, .int .i64 1, .int .i64 1] w fun e w' => e = .returned (.agg #[.int .i64 ((ad01 (1) g).aa), .int .i64 ((ad01 (1) g).ab), .int .i64 ((ad01 (1) g).ac), .int .i64 ((ad01 (1) g).ab), .int .i64 ((ad01 (1) g).bb), .int .i64 ((ad01 (1) g).bc), .int .i64 ((ad01 (1) g).ac), .int .i64 ((ad01 (1) g).bc), .int .i64 ((ad01 (1) g).cc)]) ∧ Below w.heap.size w w') ∧ (∀ w, Calls Try.prog 50 #[.agg #[.int .i64 ((ad01 (1) g).aa), .int .i64 ((ad01 (1) g).ab), .int .i64 ((ad01 (1) g).ac), .int .i64 ((ad01 (1) g).ab), .int .i64 ((ad01 (1) g).bb), .int .i64 ((ad01 (1) g).bc), .int .i64 ((ad01 (1) g).ac), .int .i64 ((ad01 (1) g).bc), .int .i64 ((ad01 (1) g).cc)], .int .i64 0, .int .i64 2, .int .i64 1] w fun e w' => e = .returned (.agg #[.int .i64 ((ad02 (1) (ad01 (1) g)).aa), .int .i64 ((ad02 (1) (ad01 (1) g)).ab), .int .i64 ((ad02 (1) (ad01 (1) g)).ac), .int .i64 ((ad02 (1) (ad01 (1) g)).ab), .int .i64 ((ad02 (1) (ad01 (1) g)).bb), .int .i64 ((ad02 (1) (ad01 (1) g)).bc), .int .i64 ((ad02 (1) (ad01 (1) g)).ac), .int .i64 ((ad02 (1) (ad01 (1) g)).bc), .int .i64 ((ad02 (1) (ad01 (1) g)).cc)]) ∧ Below w.heap.size w w') ∧ (¬ ((ad02 (1) (ad01 (1) g)).aa < g.aa) → S03 g) ∧ ((ad02 (1) (ad01 (1) g)).aa < g.aa → St m0 (ad02 (1) (ad01 (1) g)) ∧ tr3 (ad02 (1) (ad01 (1) g)) < tr3 g) := by
  have b := h.bd
  obtain ⟨b1, b2, b3, b4, b5, b6⟩ := b
  obtain ⟨e1, c1⟩ := aw_eq01 (m := g) (n := (1)) 300000 1 (by omega) (by omega) (by omega) (by omega) (by omega) (by omega) (by omega) (by decide)
  obtain ⟨c1a, c1b, c1c, c1d, c1e, c1f⟩ := c1
  have e2 := (aw_eq02 (m := (ad01 (1) g)) (n := (1)) 2000000 1 (by omega) (by omega) (by omega) (by omega) (by omega) (by omega) (by omega) (by decide)).1
  refine ⟨fun w => ?_, fun w => ?_, fun w => ?_, ?_, ?_⟩
  · have t := better_012 g (1) (1) w
    rw [e1, e2] at t
    exact t
  · have t := added_01 g (1) w
    rw [e1] at t
    exact t
  · have t := added_02 (ad01 (1) g) (1) w
    rw [e2] at t
    exact t
  · intro q
    unfold S03
    simp only [ad01, ad02] at q
    omega
  · intro q
    refine ⟨⟨pd02 (pd01 h.pd _) _, ?_, fun k hk => h.mn k (mn01 (mn02 hk))⟩, ?_⟩
    · have t := h.tr
      unfold tr3 at *
      simp only [ad01, ad02] at q ⊢
      omega
    · unfold tr3
      simp only [ad01, ad02] at q ⊢
      omega
theorem stepS_10 {m0 g : Met} (h : St m0 g) : (∀ w, Calls Try.prog 49 #[.agg #[.int .i64 g.aa, .int .i64 g.ab, .int .i64 g.ac, .int .i64 g.ab, .int .i64 g.bb, .int .i64 g.bc, .int .i64 g.ac, .int .i64 g.bc, .int .i64 g.cc], .int .i64 1, .int .i64 2, .int .i64 (-1), .int .i64 0, .int .i64 (-1)] w fun e w' => e = .returned (.bool (decide ((ad10 (-1) (ad12 (-1) g)).bb < g.bb))) ∧ Below w.heap.size w w') ∧ (∀ w, Calls Try.prog 50 #[.agg #[.int .i64 g.aa, .int .i64 g.ab, .int .i64 g.ac, .int .i64 g.ab, .int .i64 g.bb, .int .i64 g.bc, .int .i64 g.ac, .int .i64 g.bc, .int .i64 g.cc], .int .i64 1, .int .i64 2, .int .i64 (-1)] w fun e w' => e = .returned (.agg #[.int .i64 ((ad12 (-1) g).aa), .int .i64 ((ad12 (-1) g).ab), .int .i64 ((ad12 (-1) g).ac), .int .i64 ((ad12 (-1) g).ab), .int .i64 ((ad12 (-1) g).bb), .int .i64 ((ad12 (-1) g).bc), .int .i64 ((ad12 (-1) g).ac), .int .i64 ((ad12 (-1) g).bc), .int .i64 ((ad12 (-1) g).cc)]) ∧ Below w.heap.size w w') ∧ (∀ w, Calls Try.prog 50 #[.agg #[.int .i64 ((ad12 (-1) g).aa), .int .i64 ((ad12 (-1) g).ab), .int .i64 ((ad12 (-1) g).ac), .int .i64 ((ad12 (-1) g).ab), .int .i64 ((ad12 (-1) g).bb), .int .i64 ((ad12 (-1) g).bc), .int .i64 ((ad12 (-1) g).ac), .int .i64 ((ad12 (-1) g).bc), .int .i64 ((ad12 (-1) g).cc)], .int .i64 1, .int .i64 0, .int .i64 (-1)] w fun e w' => e = .returned (.agg #[.int .i64 ((ad10 (-1) (ad12 (-1) g)).aa), .int .i64 ((ad10 (-1) (ad12 (-1) g)).ab), .int .i64 ((ad10 (-1) (ad12 (-1) g)).ac), .int .i64 ((ad10 (-1) (ad12 (-1) g)).ab), .int .i64 ((ad10 (-1) (ad12 (-1) g)).bb), .int .i64 ((ad10 (-1) (ad12 (-1) g)).bc), .int .i64 ((ad10 (-1) (ad12 (-1) g)).ac), .int .i64 ((ad10 (-1) (ad12 (-1) g)).bc), .int .i64 ((ad10 (-1) (ad12 (-1) g)).cc)]) ∧ Below w.heap.size w w') ∧ (¬ ((ad10 (-1) (ad12 (-1) g)).bb < g.bb) → S10 g) ∧ ((ad10 (-1) (ad12 (-1) g)).bb < g.bb → St m0 (ad10 (-1) (ad12 (-1) g)) ∧ tr3 (ad10 (-1) (ad12 (-1) g)) < tr3 g) := by
  have b := h.bd
  obtain ⟨b1, b2, b3, b4, b5, b6⟩ := b
  obtain ⟨e1, c1⟩ := aw_eq12 (m := g) (n := (-1)) 300000 1 (by omega) (by omega) (by omega) (by omega) (by omega) (by omega) (by omega) (by decide)
  obtain ⟨c1a, c1b, c1c, c1d, c1e, c1f⟩ := c1
  have e2 := (aw_eq10 (m := (ad12 (-1) g)) (n := (-1)) 2000000 1 (by omega) (by omega) (by omega) (by omega) (by omega) (by omega) (by omega) (by decide)).1
  refine ⟨fun w => ?_, fun w => ?_, fun w => ?_, ?_, ?_⟩
  · have t := better_120 g (-1) (-1) w
    rw [e1, e2] at t
    exact t
  · have t := added_12 g (-1) w
    rw [e1] at t
    exact t
  · have t := added_10 (ad12 (-1) g) (-1) w
    rw [e2] at t
    exact t
  · intro q
    unfold S10
    simp only [ad12, ad10] at q
    omega
  · intro q
    refine ⟨⟨pd10 (pd12 h.pd _) _, ?_, fun k hk => h.mn k (mn12 (mn10 hk))⟩, ?_⟩
    · have t := h.tr
      unfold tr3 at *
      simp only [ad12, ad10] at q ⊢
      omega
    · unfold tr3
      simp only [ad12, ad10] at q ⊢
      omega
theorem stepS_11 {m0 g : Met} (h : St m0 g) : (∀ w, Calls Try.prog 49 #[.agg #[.int .i64 g.aa, .int .i64 g.ab, .int .i64 g.ac, .int .i64 g.ab, .int .i64 g.bb, .int .i64 g.bc, .int .i64 g.ac, .int .i64 g.bc, .int .i64 g.cc], .int .i64 1, .int .i64 2, .int .i64 1, .int .i64 0, .int .i64 (-1)] w fun e w' => e = .returned (.bool (decide ((ad10 (-1) (ad12 (1) g)).bb < g.bb))) ∧ Below w.heap.size w w') ∧ (∀ w, Calls Try.prog 50 #[.agg #[.int .i64 g.aa, .int .i64 g.ab, .int .i64 g.ac, .int .i64 g.ab, .int .i64 g.bb, .int .i64 g.bc, .int .i64 g.ac, .int .i64 g.bc, .int .i64 g.cc], .int .i64 1, .int .i64 2, .int .i64 1] w fun e w' => e = .returned (.agg #[.int .i64 ((ad12 (1) g).aa), .int .i64 ((ad12 (1) g).ab), .int .i64 ((ad12 (1) g).ac), .int .i64 ((ad12 (1) g).ab), .int .i64 ((ad12 (1) g).bb), .int .i64 ((ad12 (1) g).bc), .int .i64 ((ad12 (1) g).ac), .int .i64 ((ad12 (1) g).bc), .int .i64 ((ad12 (1) g).cc)]) ∧ Below w.heap.size w w') ∧ (∀ w, Calls Try.prog 50 #[.agg #[.int .i64 ((ad12 (1) g).aa), .int .i64 ((ad12 (1) g).ab), .int .i64 ((ad12 (1) g).ac), .int .i64 ((ad12 (1) g).ab), .int .i64 ((ad12 (1) g).bb), .int .i64 ((ad12 (1) g).bc), .int .i64 ((ad12 (1) g).ac), .int .i64 ((ad12 (1) g).bc), .int .i64 ((ad12 (1) g).cc)], .int .i64 1, .int .i64 0, .int .i64 (-1)] w fun e w' => e = .returned (.agg #[.int .i64 ((ad10 (-1) (ad12 (1) g)).aa), .int .i64 ((ad10 (-1) (ad12 (1) g)).ab), .int .i64 ((ad10 (-1) (ad12 (1) g)).ac), .int .i64 ((ad10 (-1) (ad12 (1) g)).ab), .int .i64 ((ad10 (-1) (ad12 (1) g)).bb), .int .i64 ((ad10 (-1) (ad12 (1) g)).bc), .int .i64 ((ad10 (-1) (ad12 (1) g)).ac), .int .i64 ((ad10 (-1) (ad12 (1) g)).bc), .int .i64 ((ad10 (-1) (ad12 (1) g)).cc)]) ∧ Below w.heap.size w w') ∧ (¬ ((ad10 (-1) (ad12 (1) g)).bb < g.bb) → S11 g) ∧ ((ad10 (-1) (ad12 (1) g)).bb < g.bb → St m0 (ad10 (-1) (ad12 (1) g)) ∧ tr3 (ad10 (-1) (ad12 (1) g)) < tr3 g) := by
  have b := h.bd
  obtain ⟨b1, b2, b3, b4, b5, b6⟩ := b
  obtain ⟨e1, c1⟩ := aw_eq12 (m := g) (n := (1)) 300000 1 (by omega) (by omega) (by omega) (by omega) (by omega) (by omega) (by omega) (by decide)
  obtain ⟨c1a, c1b, c1c, c1d, c1e, c1f⟩ := c1
  have e2 := (aw_eq10 (m := (ad12 (1) g)) (n := (-1)) 2000000 1 (by omega) (by omega) (by omega) (by omega) (by omega) (by omega) (by omega) (by decide)).1
  refine ⟨fun w => ?_, fun w => ?_, fun w => ?_, ?_, ?_⟩
  · have t := better_120 g (1) (-1) w
    rw [e1, e2] at t
    exact t
  · have t := added_12 g (1) w
    rw [e1] at t
    exact t
  · have t := added_10 (ad12 (1) g) (-1) w
    rw [e2] at t
    exact t
  · intro q
    unfold S11
    simp only [ad12, ad10] at q
    omega
  · intro q
    refine ⟨⟨pd10 (pd12 h.pd _) _, ?_, fun k hk => h.mn k (mn12 (mn10 hk))⟩, ?_⟩
    · have t := h.tr
      unfold tr3 at *
      simp only [ad12, ad10] at q ⊢
      omega
    · unfold tr3
      simp only [ad12, ad10] at q ⊢
      omega
theorem stepS_12 {m0 g : Met} (h : St m0 g) : (∀ w, Calls Try.prog 49 #[.agg #[.int .i64 g.aa, .int .i64 g.ab, .int .i64 g.ac, .int .i64 g.ab, .int .i64 g.bb, .int .i64 g.bc, .int .i64 g.ac, .int .i64 g.bc, .int .i64 g.cc], .int .i64 1, .int .i64 2, .int .i64 (-1), .int .i64 0, .int .i64 1] w fun e w' => e = .returned (.bool (decide ((ad10 (1) (ad12 (-1) g)).bb < g.bb))) ∧ Below w.heap.size w w') ∧ (∀ w, Calls Try.prog 50 #[.agg #[.int .i64 g.aa, .int .i64 g.ab, .int .i64 g.ac, .int .i64 g.ab, .int .i64 g.bb, .int .i64 g.bc, .int .i64 g.ac, .int .i64 g.bc, .int .i64 g.cc], .int .i64 1, .int .i64 2, .int .i64 (-1)] w fun e w' => e = .returned (.agg #[.int .i64 ((ad12 (-1) g).aa), .int .i64 ((ad12 (-1) g).ab), .int .i64 ((ad12 (-1) g).ac), .int .i64 ((ad12 (-1) g).ab), .int .i64 ((ad12 (-1) g).bb), .int .i64 ((ad12 (-1) g).bc), .int .i64 ((ad12 (-1) g).ac), .int .i64 ((ad12 (-1) g).bc), .int .i64 ((ad12 (-1) g).cc)]) ∧ Below w.heap.size w w') ∧ (∀ w, Calls Try.prog 50 #[.agg #[.int .i64 ((ad12 (-1) g).aa), .int .i64 ((ad12 (-1) g).ab), .int .i64 ((ad12 (-1) g).ac), .int .i64 ((ad12 (-1) g).ab), .int .i64 ((ad12 (-1) g).bb), .int .i64 ((ad12 (-1) g).bc), .int .i64 ((ad12 (-1) g).ac), .int .i64 ((ad12 (-1) g).bc), .int .i64 ((ad12 (-1) g).cc)], .int .i64 1, .int .i64 0, .int .i64 1] w fun e w' => e = .returned (.agg #[.int .i64 ((ad10 (1) (ad12 (-1) g)).aa), .int .i64 ((ad10 (1) (ad12 (-1) g)).ab), .int .i64 ((ad10 (1) (ad12 (-1) g)).ac), .int .i64 ((ad10 (1) (ad12 (-1) g)).ab), .int .i64 ((ad10 (1) (ad12 (-1) g)).bb), .int .i64 ((ad10 (1) (ad12 (-1) g)).bc), .int .i64 ((ad10 (1) (ad12 (-1) g)).ac), .int .i64 ((ad10 (1) (ad12 (-1) g)).bc), .int .i64 ((ad10 (1) (ad12 (-1) g)).cc)]) ∧ Below w.heap.size w w') ∧ (¬ ((ad10 (1) (ad12 (-1) g)).bb < g.bb) → S12 g) ∧ ((ad10 (1) (ad12 (-1) g)).bb < g.bb → St m0 (ad10 (1) (ad12 (-1) g)) ∧ tr3 (ad10 (1) (ad12 (-1) g)) < tr3 g) := by
  have b := h.bd
  obtain ⟨b1, b2, b3, b4, b5, b6⟩ := b
  obtain ⟨e1, c1⟩ := aw_eq12 (m := g) (n := (-1)) 300000 1 (by omega) (by omega) (by omega) (by omega) (by omega) (by omega) (by omega) (by decide)
  obtain ⟨c1a, c1b, c1c, c1d, c1e, c1f⟩ := c1
  have e2 := (aw_eq10 (m := (ad12 (-1) g)) (n := (1)) 2000000 1 (by omega) (by omega) (by omega) (by omega) (by omega) (by omega) (by omega) (by decide)).1
  refine ⟨fun w => ?_, fun w => ?_, fun w => ?_, ?_, ?_⟩
  · have t := better_120 g (-1) (1) w
    rw [e1, e2] at t
    exact t
  · have t := added_12 g (-1) w
    rw [e1] at t
    exact t
  · have t := added_10 (ad12 (-1) g) (1) w
    rw [e2] at t
    exact t
  · intro q
    unfold S12
    simp only [ad12, ad10] at q
    omega
  · intro q
    refine ⟨⟨pd10 (pd12 h.pd _) _, ?_, fun k hk => h.mn k (mn12 (mn10 hk))⟩, ?_⟩
    · have t := h.tr
      unfold tr3 at *
      simp only [ad12, ad10] at q ⊢
      omega
    · unfold tr3
      simp only [ad12, ad10] at q ⊢
      omega
theorem stepS_13 {m0 g : Met} (h : St m0 g) : (∀ w, Calls Try.prog 49 #[.agg #[.int .i64 g.aa, .int .i64 g.ab, .int .i64 g.ac, .int .i64 g.ab, .int .i64 g.bb, .int .i64 g.bc, .int .i64 g.ac, .int .i64 g.bc, .int .i64 g.cc], .int .i64 1, .int .i64 2, .int .i64 1, .int .i64 0, .int .i64 1] w fun e w' => e = .returned (.bool (decide ((ad10 (1) (ad12 (1) g)).bb < g.bb))) ∧ Below w.heap.size w w') ∧ (∀ w, Calls Try.prog 50 #[.agg #[.int .i64 g.aa, .int .i64 g.ab, .int .i64 g.ac, .int .i64 g.ab, .int .i64 g.bb, .int .i64 g.bc, .int .i64 g.ac, .int .i64 g.bc, .int .i64 g.cc], .int .i64 1, .int .i64 2, .int .i64 1] w fun e w' => e = .returned (.agg #[.int .i64 ((ad12 (1) g).aa), .int .i64 ((ad12 (1) g).ab), .int .i64 ((ad12 (1) g).ac), .int .i64 ((ad12 (1) g).ab), .int .i64 ((ad12 (1) g).bb), .int .i64 ((ad12 (1) g).bc), .int .i64 ((ad12 (1) g).ac), .int .i64 ((ad12 (1) g).bc), .int .i64 ((ad12 (1) g).cc)]) ∧ Below w.heap.size w w') ∧ (∀ w, Calls Try.prog 50 #[.agg #[.int .i64 ((ad12 (1) g).aa), .int .i64 ((ad12 (1) g).ab), .int .i64 ((ad12 (1) g).ac), .int .i64 ((ad12 (1) g).ab), .int .i64 ((ad12 (1) g).bb), .int .i64 ((ad12 (1) g).bc), .int .i64 ((ad12 (1) g).ac), .int .i64 ((ad12 (1) g).bc), .int .i64 ((ad12 (1) g).cc)], .int .i64 1, .int .i64 0, .int .i64 1] w fun e w' => e = .returned (.agg #[.int .i64 ((ad10 (1) (ad12 (1) g)).aa), .int .i64 ((ad10 (1) (ad12 (1) g)).ab), .int .i64 ((ad10 (1) (ad12 (1) g)).ac), .int .i64 ((ad10 (1) (ad12 (1) g)).ab), .int .i64 ((ad10 (1) (ad12 (1) g)).bb), .int .i64 ((ad10 (1) (ad12 (1) g)).bc), .int .i64 ((ad10 (1) (ad12 (1) g)).ac), .int .i64 ((ad10 (1) (ad12 (1) g)).bc), .int .i64 ((ad10 (1) (ad12 (1) g)).cc)]) ∧ Below w.heap.size w w') ∧ (¬ ((ad10 (1) (ad12 (1) g)).bb < g.bb) → S13 g) ∧ ((ad10 (1) (ad12 (1) g)).bb < g.bb → St m0 (ad10 (1) (ad12 (1) g)) ∧ tr3 (ad10 (1) (ad12 (1) g)) < tr3 g) := by
  have b := h.bd
  obtain ⟨b1, b2, b3, b4, b5, b6⟩ := b
  obtain ⟨e1, c1⟩ := aw_eq12 (m := g) (n := (1)) 300000 1 (by omega) (by omega) (by omega) (by omega) (by omega) (by omega) (by omega) (by decide)
  obtain ⟨c1a, c1b, c1c, c1d, c1e, c1f⟩ := c1
  have e2 := (aw_eq10 (m := (ad12 (1) g)) (n := (1)) 2000000 1 (by omega) (by omega) (by omega) (by omega) (by omega) (by omega) (by omega) (by decide)).1
  refine ⟨fun w => ?_, fun w => ?_, fun w => ?_, ?_, ?_⟩
  · have t := better_120 g (1) (1) w
    rw [e1, e2] at t
    exact t
  · have t := added_12 g (1) w
    rw [e1] at t
    exact t
  · have t := added_10 (ad12 (1) g) (1) w
    rw [e2] at t
    exact t
  · intro q
    unfold S13
    simp only [ad12, ad10] at q
    omega
  · intro q
    refine ⟨⟨pd10 (pd12 h.pd _) _, ?_, fun k hk => h.mn k (mn12 (mn10 hk))⟩, ?_⟩
    · have t := h.tr
      unfold tr3 at *
      simp only [ad12, ad10] at q ⊢
      omega
    · unfold tr3
      simp only [ad12, ad10] at q ⊢
      omega
theorem stepS_20 {m0 g : Met} (h : St m0 g) : (∀ w, Calls Try.prog 49 #[.agg #[.int .i64 g.aa, .int .i64 g.ab, .int .i64 g.ac, .int .i64 g.ab, .int .i64 g.bb, .int .i64 g.bc, .int .i64 g.ac, .int .i64 g.bc, .int .i64 g.cc], .int .i64 2, .int .i64 0, .int .i64 (-1), .int .i64 1, .int .i64 (-1)] w fun e w' => e = .returned (.bool (decide ((ad21 (-1) (ad20 (-1) g)).cc < g.cc))) ∧ Below w.heap.size w w') ∧ (∀ w, Calls Try.prog 50 #[.agg #[.int .i64 g.aa, .int .i64 g.ab, .int .i64 g.ac, .int .i64 g.ab, .int .i64 g.bb, .int .i64 g.bc, .int .i64 g.ac, .int .i64 g.bc, .int .i64 g.cc], .int .i64 2, .int .i64 0, .int .i64 (-1)] w fun e w' => e = .returned (.agg #[.int .i64 ((ad20 (-1) g).aa), .int .i64 ((ad20 (-1) g).ab), .int .i64 ((ad20 (-1) g).ac), .int .i64 ((ad20 (-1) g).ab), .int .i64 ((ad20 (-1) g).bb), .int .i64 ((ad20 (-1) g).bc), .int .i64 ((ad20 (-1) g).ac), .int .i64 ((ad20 (-1) g).bc), .int .i64 ((ad20 (-1) g).cc)]) ∧ Below w.heap.size w w') ∧ (∀ w, Calls Try.prog 50 #[.agg #[.int .i64 ((ad20 (-1) g).aa), .int .i64 ((ad20 (-1) g).ab), .int .i64 ((ad20 (-1) g).ac), .int .i64 ((ad20 (-1) g).ab), .int .i64 ((ad20 (-1) g).bb), .int .i64 ((ad20 (-1) g).bc), .int .i64 ((ad20 (-1) g).ac), .int .i64 ((ad20 (-1) g).bc), .int .i64 ((ad20 (-1) g).cc)], .int .i64 2, .int .i64 1, .int .i64 (-1)] w fun e w' => e = .returned (.agg #[.int .i64 ((ad21 (-1) (ad20 (-1) g)).aa), .int .i64 ((ad21 (-1) (ad20 (-1) g)).ab), .int .i64 ((ad21 (-1) (ad20 (-1) g)).ac), .int .i64 ((ad21 (-1) (ad20 (-1) g)).ab), .int .i64 ((ad21 (-1) (ad20 (-1) g)).bb), .int .i64 ((ad21 (-1) (ad20 (-1) g)).bc), .int .i64 ((ad21 (-1) (ad20 (-1) g)).ac), .int .i64 ((ad21 (-1) (ad20 (-1) g)).bc), .int .i64 ((ad21 (-1) (ad20 (-1) g)).cc)]) ∧ Below w.heap.size w w') ∧ (¬ ((ad21 (-1) (ad20 (-1) g)).cc < g.cc) → S20 g) ∧ ((ad21 (-1) (ad20 (-1) g)).cc < g.cc → St m0 (ad21 (-1) (ad20 (-1) g)) ∧ tr3 (ad21 (-1) (ad20 (-1) g)) < tr3 g) := by
  have b := h.bd
  obtain ⟨b1, b2, b3, b4, b5, b6⟩ := b
  obtain ⟨e1, c1⟩ := aw_eq20 (m := g) (n := (-1)) 300000 1 (by omega) (by omega) (by omega) (by omega) (by omega) (by omega) (by omega) (by decide)
  obtain ⟨c1a, c1b, c1c, c1d, c1e, c1f⟩ := c1
  have e2 := (aw_eq21 (m := (ad20 (-1) g)) (n := (-1)) 2000000 1 (by omega) (by omega) (by omega) (by omega) (by omega) (by omega) (by omega) (by decide)).1
  refine ⟨fun w => ?_, fun w => ?_, fun w => ?_, ?_, ?_⟩
  · have t := better_201 g (-1) (-1) w
    rw [e1, e2] at t
    exact t
  · have t := added_20 g (-1) w
    rw [e1] at t
    exact t
  · have t := added_21 (ad20 (-1) g) (-1) w
    rw [e2] at t
    exact t
  · intro q
    unfold S20
    simp only [ad20, ad21] at q
    omega
  · intro q
    refine ⟨⟨pd21 (pd20 h.pd _) _, ?_, fun k hk => h.mn k (mn20 (mn21 hk))⟩, ?_⟩
    · have t := h.tr
      unfold tr3 at *
      simp only [ad20, ad21] at q ⊢
      omega
    · unfold tr3
      simp only [ad20, ad21] at q ⊢
      omega
theorem stepS_21 {m0 g : Met} (h : St m0 g) : (∀ w, Calls Try.prog 49 #[.agg #[.int .i64 g.aa, .int .i64 g.ab, .int .i64 g.ac, .int .i64 g.ab, .int .i64 g.bb, .int .i64 g.bc, .int .i64 g.ac, .int .i64 g.bc, .int .i64 g.cc], .int .i64 2, .int .i64 0, .int .i64 1, .int .i64 1, .int .i64 (-1)] w fun e w' => e = .returned (.bool (decide ((ad21 (-1) (ad20 (1) g)).cc < g.cc))) ∧ Below w.heap.size w w') ∧ (∀ w, Calls Try.prog 50 #[.agg #[.int .i64 g.aa, .int .i64 g.ab, .int .i64 g.ac, .int .i64 g.ab, .int .i64 g.bb, .int .i64 g.bc, .int .i64 g.ac, .int .i64 g.bc, .int .i64 g.cc], .int .i64 2, .int .i64 0, .int .i64 1] w fun e w' => e = .returned (.agg #[.int .i64 ((ad20 (1) g).aa), .int .i64 ((ad20 (1) g).ab), .int .i64 ((ad20 (1) g).ac), .int .i64 ((ad20 (1) g).ab), .int .i64 ((ad20 (1) g).bb), .int .i64 ((ad20 (1) g).bc), .int .i64 ((ad20 (1) g).ac), .int .i64 ((ad20 (1) g).bc), .int .i64 ((ad20 (1) g).cc)]) ∧ Below w.heap.size w w') ∧ (∀ w, Calls Try.prog 50 #[.agg #[.int .i64 ((ad20 (1) g).aa), .int .i64 ((ad20 (1) g).ab), .int .i64 ((ad20 (1) g).ac), .int .i64 ((ad20 (1) g).ab), .int .i64 ((ad20 (1) g).bb), .int .i64 ((ad20 (1) g).bc), .int .i64 ((ad20 (1) g).ac), .int .i64 ((ad20 (1) g).bc), .int .i64 ((ad20 (1) g).cc)], .int .i64 2, .int .i64 1, .int .i64 (-1)] w fun e w' => e = .returned (.agg #[.int .i64 ((ad21 (-1) (ad20 (1) g)).aa), .int .i64 ((ad21 (-1) (ad20 (1) g)).ab), .int .i64 ((ad21 (-1) (ad20 (1) g)).ac), .int .i64 ((ad21 (-1) (ad20 (1) g)).ab), .int .i64 ((ad21 (-1) (ad20 (1) g)).bb), .int .i64 ((ad21 (-1) (ad20 (1) g)).bc), .int .i64 ((ad21 (-1) (ad20 (1) g)).ac), .int .i64 ((ad21 (-1) (ad20 (1) g)).bc), .int .i64 ((ad21 (-1) (ad20 (1) g)).cc)]) ∧ Below w.heap.size w w') ∧ (¬ ((ad21 (-1) (ad20 (1) g)).cc < g.cc) → S21 g) ∧ ((ad21 (-1) (ad20 (1) g)).cc < g.cc → St m0 (ad21 (-1) (ad20 (1) g)) ∧ tr3 (ad21 (-1) (ad20 (1) g)) < tr3 g) := by
  have b := h.bd
  obtain ⟨b1, b2, b3, b4, b5, b6⟩ := b
  obtain ⟨e1, c1⟩ := aw_eq20 (m := g) (n := (1)) 300000 1 (by omega) (by omega) (by omega) (by omega) (by omega) (by omega) (by omega) (by decide)
  obtain ⟨c1a, c1b, c1c, c1d, c1e, c1f⟩ := c1
  have e2 := (aw_eq21 (m := (ad20 (1) g)) (n := (-1)) 2000000 1 (by omega) (by omega) (by omega) (by omega) (by omega) (by omega) (by omega) (by decide)).1
  refine ⟨fun w => ?_, fun w => ?_, fun w => ?_, ?_, ?_⟩
  · have t := better_201 g (1) (-1) w
    rw [e1, e2] at t
    exact t
  · have t := added_20 g (1) w
    rw [e1] at t
    exact t
  · have t := added_21 (ad20 (1) g) (-1) w
    rw [e2] at t
    exact t
  · intro q
    unfold S21
    simp only [ad20, ad21] at q
    omega
  · intro q
    refine ⟨⟨pd21 (pd20 h.pd _) _, ?_, fun k hk => h.mn k (mn20 (mn21 hk))⟩, ?_⟩
    · have t := h.tr
      unfold tr3 at *
      simp only [ad20, ad21] at q ⊢
      omega
    · unfold tr3
      simp only [ad20, ad21] at q ⊢
      omega
theorem stepS_22 {m0 g : Met} (h : St m0 g) : (∀ w, Calls Try.prog 49 #[.agg #[.int .i64 g.aa, .int .i64 g.ab, .int .i64 g.ac, .int .i64 g.ab, .int .i64 g.bb, .int .i64 g.bc, .int .i64 g.ac, .int .i64 g.bc, .int .i64 g.cc], .int .i64 2, .int .i64 0, .int .i64 (-1), .int .i64 1, .int .i64 1] w fun e w' => e = .returned (.bool (decide ((ad21 (1) (ad20 (-1) g)).cc < g.cc))) ∧ Below w.heap.size w w') ∧ (∀ w, Calls Try.prog 50 #[.agg #[.int .i64 g.aa, .int .i64 g.ab, .int .i64 g.ac, .int .i64 g.ab, .int .i64 g.bb, .int .i64 g.bc, .int .i64 g.ac, .int .i64 g.bc, .int .i64 g.cc], .int .i64 2, .int .i64 0, .int .i64 (-1)] w fun e w' => e = .returned (.agg #[.int .i64 ((ad20 (-1) g).aa), .int .i64 ((ad20 (-1) g).ab), .int .i64 ((ad20 (-1) g).ac), .int .i64 ((ad20 (-1) g).ab), .int .i64 ((ad20 (-1) g).bb), .int .i64 ((ad20 (-1) g).bc), .int .i64 ((ad20 (-1) g).ac), .int .i64 ((ad20 (-1) g).bc), .int .i64 ((ad20 (-1) g).cc)]) ∧ Below w.heap.size w w') ∧ (∀ w, Calls Try.prog 50 #[.agg #[.int .i64 ((ad20 (-1) g).aa), .int .i64 ((ad20 (-1) g).ab), .int .i64 ((ad20 (-1) g).ac), .int .i64 ((ad20 (-1) g).ab), .int .i64 ((ad20 (-1) g).bb), .int .i64 ((ad20 (-1) g).bc), .int .i64 ((ad20 (-1) g).ac), .int .i64 ((ad20 (-1) g).bc), .int .i64 ((ad20 (-1) g).cc)], .int .i64 2, .int .i64 1, .int .i64 1] w fun e w' => e = .returned (.agg #[.int .i64 ((ad21 (1) (ad20 (-1) g)).aa), .int .i64 ((ad21 (1) (ad20 (-1) g)).ab), .int .i64 ((ad21 (1) (ad20 (-1) g)).ac), .int .i64 ((ad21 (1) (ad20 (-1) g)).ab), .int .i64 ((ad21 (1) (ad20 (-1) g)).bb), .int .i64 ((ad21 (1) (ad20 (-1) g)).bc), .int .i64 ((ad21 (1) (ad20 (-1) g)).ac), .int .i64 ((ad21 (1) (ad20 (-1) g)).bc), .int .i64 ((ad21 (1) (ad20 (-1) g)).cc)]) ∧ Below w.heap.size w w') ∧ (¬ ((ad21 (1) (ad20 (-1) g)).cc < g.cc) → S22 g) ∧ ((ad21 (1) (ad20 (-1) g)).cc < g.cc → St m0 (ad21 (1) (ad20 (-1) g)) ∧ tr3 (ad21 (1) (ad20 (-1) g)) < tr3 g) := by
  have b := h.bd
  obtain ⟨b1, b2, b3, b4, b5, b6⟩ := b
  obtain ⟨e1, c1⟩ := aw_eq20 (m := g) (n := (-1)) 300000 1 (by omega) (by omega) (by omega) (by omega) (by omega) (by omega) (by omega) (by decide)
  obtain ⟨c1a, c1b, c1c, c1d, c1e, c1f⟩ := c1
  have e2 := (aw_eq21 (m := (ad20 (-1) g)) (n := (1)) 2000000 1 (by omega) (by omega) (by omega) (by omega) (by omega) (by omega) (by omega) (by decide)).1
  refine ⟨fun w => ?_, fun w => ?_, fun w => ?_, ?_, ?_⟩
  · have t := better_201 g (-1) (1) w
    rw [e1, e2] at t
    exact t
  · have t := added_20 g (-1) w
    rw [e1] at t
    exact t
  · have t := added_21 (ad20 (-1) g) (1) w
    rw [e2] at t
    exact t
  · intro q
    unfold S22
    simp only [ad20, ad21] at q
    omega
  · intro q
    refine ⟨⟨pd21 (pd20 h.pd _) _, ?_, fun k hk => h.mn k (mn20 (mn21 hk))⟩, ?_⟩
    · have t := h.tr
      unfold tr3 at *
      simp only [ad20, ad21] at q ⊢
      omega
    · unfold tr3
      simp only [ad20, ad21] at q ⊢
      omega
theorem stepS_23 {m0 g : Met} (h : St m0 g) : (∀ w, Calls Try.prog 49 #[.agg #[.int .i64 g.aa, .int .i64 g.ab, .int .i64 g.ac, .int .i64 g.ab, .int .i64 g.bb, .int .i64 g.bc, .int .i64 g.ac, .int .i64 g.bc, .int .i64 g.cc], .int .i64 2, .int .i64 0, .int .i64 1, .int .i64 1, .int .i64 1] w fun e w' => e = .returned (.bool (decide ((ad21 (1) (ad20 (1) g)).cc < g.cc))) ∧ Below w.heap.size w w') ∧ (∀ w, Calls Try.prog 50 #[.agg #[.int .i64 g.aa, .int .i64 g.ab, .int .i64 g.ac, .int .i64 g.ab, .int .i64 g.bb, .int .i64 g.bc, .int .i64 g.ac, .int .i64 g.bc, .int .i64 g.cc], .int .i64 2, .int .i64 0, .int .i64 1] w fun e w' => e = .returned (.agg #[.int .i64 ((ad20 (1) g).aa), .int .i64 ((ad20 (1) g).ab), .int .i64 ((ad20 (1) g).ac), .int .i64 ((ad20 (1) g).ab), .int .i64 ((ad20 (1) g).bb), .int .i64 ((ad20 (1) g).bc), .int .i64 ((ad20 (1) g).ac), .int .i64 ((ad20 (1) g).bc), .int .i64 ((ad20 (1) g).cc)]) ∧ Below w.heap.size w w') ∧ (∀ w, Calls Try.prog 50 #[.agg #[.int .i64 ((ad20 (1) g).aa), .int .i64 ((ad20 (1) g).ab), .int .i64 ((ad20 (1) g).ac), .int .i64 ((ad20 (1) g).ab), .int .i64 ((ad20 (1) g).bb), .int .i64 ((ad20 (1) g).bc), .int .i64 ((ad20 (1) g).ac), .int .i64 ((ad20 (1) g).bc), .int .i64 ((ad20 (1) g).cc)], .int .i64 2, .int .i64 1, .int .i64 1] w fun e w' => e = .returned (.agg #[.int .i64 ((ad21 (1) (ad20 (1) g)).aa), .int .i64 ((ad21 (1) (ad20 (1) g)).ab), .int .i64 ((ad21 (1) (ad20 (1) g)).ac), .int .i64 ((ad21 (1) (ad20 (1) g)).ab), .int .i64 ((ad21 (1) (ad20 (1) g)).bb), .int .i64 ((ad21 (1) (ad20 (1) g)).bc), .int .i64 ((ad21 (1) (ad20 (1) g)).ac), .int .i64 ((ad21 (1) (ad20 (1) g)).bc), .int .i64 ((ad21 (1) (ad20 (1) g)).cc)]) ∧ Below w.heap.size w w') ∧ (¬ ((ad21 (1) (ad20 (1) g)).cc < g.cc) → S23 g) ∧ ((ad21 (1) (ad20 (1) g)).cc < g.cc → St m0 (ad21 (1) (ad20 (1) g)) ∧ tr3 (ad21 (1) (ad20 (1) g)) < tr3 g) := by
  have b := h.bd
  obtain ⟨b1, b2, b3, b4, b5, b6⟩ := b
  obtain ⟨e1, c1⟩ := aw_eq20 (m := g) (n := (1)) 300000 1 (by omega) (by omega) (by omega) (by omega) (by omega) (by omega) (by omega) (by decide)
  obtain ⟨c1a, c1b, c1c, c1d, c1e, c1f⟩ := c1
  have e2 := (aw_eq21 (m := (ad20 (1) g)) (n := (1)) 2000000 1 (by omega) (by omega) (by omega) (by omega) (by omega) (by omega) (by omega) (by decide)).1
  refine ⟨fun w => ?_, fun w => ?_, fun w => ?_, ?_, ?_⟩
  · have t := better_201 g (1) (1) w
    rw [e1, e2] at t
    exact t
  · have t := added_20 g (1) w
    rw [e1] at t
    exact t
  · have t := added_21 (ad20 (1) g) (1) w
    rw [e2] at t
    exact t
  · intro q
    unfold S23
    simp only [ad20, ad21] at q
    omega
  · intro q
    refine ⟨⟨pd21 (pd20 h.pd _) _, ?_, fun k hk => h.mn k (mn20 (mn21 hk))⟩, ?_⟩
    · have t := h.tr
      unfold tr3 at *
      simp only [ad20, ad21] at q ⊢
      omega
    · unfold tr3
      simp only [ad20, ad21] at q ⊢
      omega
end Go.Proofs.Ytdhlkhockpblhaa
