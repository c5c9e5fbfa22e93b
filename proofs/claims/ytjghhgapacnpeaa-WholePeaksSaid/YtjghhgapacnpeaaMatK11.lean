/-
  Rows of peaks; their sort.
-/
import Derived.Test.YtjghhgapacnpeaaMatK10
import Derived.Laws.OwnMore
import Derived.OwnWalk
import Derived.Deep.AppendLies
namespace Go.Proofs.Ytjghhgapacnpeaa
open Go.RowKit Go.Lib Go.Proofs
attribute [local irreducible] World.setCell
set_option linter.unusedSimpArgs false
set_option linter.unusedVariables false


theorem ownsRow_below {w w' : World} {base : Nat} {e : TypeId} {size : Nat} {v : Value} {n : Nat} {xs : List Value} (h : w.ownsRow base e size v n xs) (hb : Below w.heap.size w w') : w'.ownsRow base e size v n xs := by
  refine ⟨h.1, ?_⟩
  rcases h.2 with hn | ⟨g, cap, cur, rfl, hbs, hg, rest⟩
  · exact .inl hn
  · refine .inr ⟨g, cap, cur, rfl, hbs, ?_, rest⟩
    rw [hb.block g (Array.getElem?_eq_some_iff.1 hg).1]
    exact hg
theorem owned_ge {w : World} {base : Nat} {e : TypeId} {size : Nat} {v : Value} {n : Nat} {xs : List Value} (h : w.ownsRow base e size v n xs) : ∀ k, v.ownBlock = some k → base ≤ k := by
  intro k hk
  rcases h.2 with ⟨rfl, _⟩ | ⟨g, cap, cur, rfl, hb, _⟩
  · cases hk
  · cases hk; exact hb
theorem owned_setOther {w : World} {base : Nat} {e : TypeId} {size : Nat} {v : Value} {n : Nat} {xs : List Value} (h : w.ownsRow base e size v n xs) {g k : Nat} (hg : g < base) (u : Value) : (w.setCell ⟨g, k, none⟩ u).ownsRow base e size v n xs := by
  refine ⟨h.1, ?_⟩
  rcases h.2 with hn | ⟨g', cap, cur, rfl, hbs, hgg, rest⟩
  · exact .inl hn
  · refine .inr ⟨g', cap, cur, rfl, hbs, ?_, rest⟩
    rw [Below.heap_setCell _ _ _ _ (by show g' ≠ g; omega)]
    exact hgg
theorem Try.info55 : (Try.prog.info? 55).map (fun i => (i.zero, i.size, i.bytes)) = some (some (.agg #[.int .i64 0, .int .i64 0, .int .i64 0, .int .i64 0]), 4, 32) := by kernel_rfl
theorem flat_at (l : List Pk) : ∀ t, t < l.length * 4 → (l.flatMap Pk.cells)[t]? = some ((Pk.cells l[t / 4]!)[t % 4]!) := by
  induction l with
  | nil => intro t ht; simp at ht
  | cons p l ih =>
    intro t ht
    rw [List.flatMap_cons]
    have h4 : p.cells.length = 4 := rfl
    by_cases c : t < 4
    · rw [List.getElem?_append_left (by omega), Nat.div_eq_of_lt c, Nat.mod_eq_of_lt c]
      simp only [List.getElem!_cons_zero]
      have : t < p.cells.length := by omega
      simp [this]
    · rw [List.getElem?_append_right (by omega), h4]
      obtain ⟨s, rfl⟩ : ∃ s, t = s + 4 := ⟨t - 4, by omega⟩
      rw [Nat.add_sub_cancel, ih s (by simp at ht; omega), show (s + 4) / 4 = s / 4 + 1 by omega, show (s + 4) % 4 = s % 4 by omega]
      simp
theorem flat_len (l : List Pk) : (l.flatMap Pk.cells).length = l.length * 4 := by
  induction l with
  | nil => rfl
  | cons p l ih => rw [List.flatMap_cons, List.length_append, ih, List.length_cons]; show 4 + _ = _; omega
theorem holds_of_owns {w : World} {base g n cap : Nat} {l : List Pk} (h : w.ownsRow base 55 4 (.slice (some ⟨g, 0, none⟩) n cap) n (l.flatMap Pk.cells)) (hn : n = l.length) : Go.Sort.HoldsK Pk.cells 4 w g 0 l.toArray := by
  intro t ht
  have ht4 : t < l.length * 4 := by simpa using ht
  rw [Go.Sort.get_flatK _ _ _ _ (by simpa using ht4), Nat.zero_add]
  refine ⟨?_, h.frozenAt t⟩
  rw [h.cellAt t (by omega), flat_at l t ht4]
  simp
/-- A list of peaks as a world holds it. -/
def PkRow (w : World) (v : Value) (d : Array Pk) : Prop := ∃ a cap, v = .slice a d.size cap ∧ (0 < d.size → ∃ g, a = some ⟨g, 0, none⟩ ∧ g < w.heap.size ∧ ∀ t, t < d.size →
  w.cell? ⟨g, t * 4, none⟩ = some (.int .i64 (d[t]!).x) ∧ w.cell? ⟨g, t * 4 + 1, none⟩ = some (.int .i64 (d[t]!).y) ∧ w.cell? ⟨g, t * 4 + 2, none⟩ = some (.int .i64 (d[t]!).z) ∧ w.cell? ⟨g, t * 4 + 3, none⟩ = some (.int .i64 (d[t]!).v))
theorem PkRow.below {w w' : World} {v : Value} {d : Array Pk} (h : PkRow w v d) (hb : Below w.heap.size w w') : PkRow w' v d := by
  obtain ⟨a, cap, e, h⟩ := h
  refine ⟨a, cap, e, fun hd => ?_⟩
  obtain ⟨g, e1, hg, hc⟩ := h hd
  refine ⟨g, e1, Nat.lt_of_lt_of_le hg hb.size, fun t ht => ?_⟩
  obtain ⟨c0, c1, c2, c3⟩ := hc t ht
  exact ⟨(hb.cell (p := ⟨g, t * 4, none⟩) hg).trans c0, (hb.cell (p := ⟨g, t * 4 + 1, none⟩) hg).trans c1, (hb.cell (p := ⟨g, t * 4 + 2, none⟩) hg).trans c2, (hb.cell (p := ⟨g, t * 4 + 3, none⟩) hg).trans c3⟩
theorem pkRow_of_holds {w : World} {g cap : Nat} {d : Array Pk} (h : Go.Sort.HoldsK Pk.cells 4 w g 0 d) (hg : g < w.heap.size) : PkRow w (.slice (some ⟨g, 0, none⟩) d.size cap) d := by
  refine ⟨_, cap, rfl, fun _ => ⟨g, rfl, hg, fun t ht => ?_⟩⟩
  have k0 := (h.cell (i := t) (c := 0) ht (by decide)).1
  have k1 := (h.cell (i := t) (c := 1) ht (by decide)).1
  have k2 := (h.cell (i := t) (c := 2) ht (by decide)).1
  have k3 := (h.cell (i := t) (c := 3) ht (by decide)).1
  rw [Nat.zero_add] at k0 k1 k2 k3
  exact ⟨k0, k1, k2, k3⟩
theorem inner_size (lt : Pk → Pk → Bool) (a : Nat) : ∀ (j : Nat) (d : Array Pk), (Go.Sort.insInner lt a j d).size = d.size
  | 0, d => by unfold Go.Sort.insInner; rfl
  | j + 1, d => by
    unfold Go.Sort.insInner
    split
    · rw [inner_size lt a j, Go.Sort.swp_size]
    · rfl
theorem outer_size (lt : Pk → Pk → Bool) (a b : Nat) : ∀ (n i : Nat) (d : Array Pk), b - i = n → (Go.Sort.insOuter lt a b i d).size = d.size
  | 0, i, d, hn => by rw [outer_end lt a b i d (by omega)]
  | n + 1, i, d, hn => by rw [outer_step lt a b i d (by omega), outer_size lt a b n (i + 1) _ (by omega), inner_size]
/-- The sort of a list that a call owns: at any small size. -/
theorem sort_owned {w : World} {base n Bs : Nat} {v : Value} (l : List Pk) (hown : w.ownsRow base 55 4 v n (l.flatMap Pk.cells)) (hn : n = l.length) (h20 : n < 20) (hs : w.cell? ⟨Bs, 0, none⟩ = some v) (hB : Bs < base) (hl : Bs < w.heap.size) (hbz : base ≤ w.heap.size) :
    Calls Try.prog 34 #[.iface 51 v, .func (.func 35) #[] #[.pointer (some ⟨Bs, 0, none⟩)]] w fun e w' =>
      e = .returned (.tuple #[]) ∧ w'.cell? ⟨Bs, 0, none⟩ = some v ∧ PkRow w' v (Go.Sort.insertionSort Pk.ltv l.toArray 0 l.toArray.size) ∧ Below base w w' := by
  by_cases h2 : 2 ≤ n
  · rcases hown.2 with ⟨rfl, hz⟩ | ⟨g, cap, cur, rfl, hbs, hg, _⟩
    · omega
    · have hgl := (Array.getElem?_eq_some_iff.1 hg).1
      have hH := holds_of_owns hown hn
      have hsz : l.toArray.size = n := by simp [hn]
      have hne : Bs ≠ g := by omega
      have key := peaks_sorted g cap Bs l.toArray (by omega) (by omega) w (by rw [hsz]; exact hs) hne hl hH hgl
      rw [hsz] at key ⊢
      refine key.mono ?_
      rintro e w' ⟨rfl, q, os, rfl⟩
      have hdz : (Go.Sort.insertionSort Pk.ltv l.toArray 0 n).size = l.toArray.size := by
        unfold Go.Sort.insertionSort
        exact outer_size _ _ _ _ _ _ rfl
      refine ⟨rfl, ?_, ?_, ?_⟩
      · rw [Go.Sort.cell?_grow _ _ _ (by unfold Go.Sort.putRowK; rw [Go.Sort.size_putRow]; exact hl), Go.Sort.cell?_putRowK_other _ _ _ _ _ _ _ hne]
        exact hs
      · have hk := Go.Sort.holdsK_putRowK Pk.cells 4 (Go.Sort.ahead w q) g 0 l.toArray _ (Go.Sort.holdsK_ahead _ _ _ _ _ _ _ hH) hdz
        have hgp : g < (Go.Sort.putRowK Pk.cells 4 (Go.Sort.ahead w q) g 0 (Go.Sort.insertionSort Pk.ltv l.toArray 0 n)).heap.size := by unfold Go.Sort.putRowK; rw [Go.Sort.size_putRow]; exact hgl
        have hk' := Go.Sort.holdsK_grow Pk.cells 4 _ os g 0 _ hgp hk
        have := pkRow_of_holds (cap := cap) hk' (by rw [Go.Sort.size_grow]; omega)
        rw [hdz, hsz] at this
        exact this
      · refine ⟨rfl, rfl, rfl, ?_, fun k hk => ?_⟩
        · rw [Go.Sort.size_grow]; unfold Go.Sort.putRowK; rw [Go.Sort.size_putRow]; show w.heap.size ≤ w.heap.size + _; omega
        · rw [Go.Sort.heap_grow_old _ _ (by unfold Go.Sort.putRowK; rw [Go.Sort.size_putRow]; show k < w.heap.size; omega)]
          have : g ≠ k := by omega
          simp [Go.Sort.putRowK, Go.Sort.putRow, Go.Sort.mapBlock, Go.Sort.ahead, Array.getElem?_modify, this]
  · have hv : ∃ p c, v = .slice p n c ∧ (0 < n → ∃ g, p = some ⟨g, 0, none⟩ ∧ g < w.heap.size) := by
      rcases hown.2 with ⟨rfl, hz⟩ | ⟨g, cap, cur, rfl, hbs, hg, _⟩
      · exact ⟨_, _, by rw [hz], fun h => by omega⟩
      · exact ⟨_, _, rfl, fun _ => ⟨g, rfl, (Array.getElem?_eq_some_iff.1 hg).1⟩⟩
    obtain ⟨p, c, rfl, hp⟩ := hv
    have key := Any.sort_SliceStable_tiny Try.laysGt8 51 55 pkT pkE (by kernel_rfl) (by kernel_rfl) (by kernel_rfl) (by kernel_rfl) 25 (fun _ => by kernel_rfl) p n c (by omega)
    have hsort : Go.Sort.insertionSort Pk.ltv l.toArray 0 l.toArray.size = l.toArray := by
      have : ¬ 1 < l.toArray.size := by simp; omega
      unfold Go.Sort.insertionSort
      exact outer_end _ _ _ _ _ this
    rw [hsort]
    have done : ∀ os, (Go.Sort.grow w os).cell? ⟨Bs, 0, none⟩ = some (.slice p n c) ∧ PkRow (Go.Sort.grow w os) (.slice p n c) l.toArray ∧ Below base w (Go.Sort.grow w os) := by
      intro os
      have hsz : l.toArray.size = n := by simp [hn]
      have hbel : Below w.heap.size w (Go.Sort.grow w os) := ⟨rfl, rfl, rfl, by rw [Go.Sort.size_grow]; omega, fun k hk => Go.Sort.heap_grow_old _ _ hk⟩
      refine ⟨by rw [Go.Sort.cell?_grow _ _ _ hl]; exact hs, ?_, ?_⟩
      · rcases Nat.eq_zero_or_pos n with z | z
        · exact ⟨p, c, by rw [hsz], fun h => by rw [hsz] at h; omega⟩
        · obtain ⟨g, rfl, hg⟩ := hp z
          have := (pkRow_of_holds (cap := c) (holds_of_owns hown hn) hg).below hbel
          rw [hsz] at this
          exact this
      · exact hbel.mono hbz
    by_cases n1 : n = 1
    · have := key 45 (by rw [n1]; kernel_rfl) (.func 35) #[] #[.pointer (some ⟨Bs, 0, none⟩)] w
      refine this.mono ?_
      rintro e w' ⟨rfl, os, rfl⟩
      exact ⟨rfl, done os⟩
    · have n0 : n = 0 := by omega
      have := key 44 (by rw [n0]; kernel_rfl) (.func 35) #[] #[.pointer (some ⟨Bs, 0, none⟩)] w
      refine this.mono ?_
      rintro e w' ⟨rfl, os, rfl⟩
      exact ⟨rfl, done os⟩

end Go.Proofs.Ytjghhgapacnpeaa
