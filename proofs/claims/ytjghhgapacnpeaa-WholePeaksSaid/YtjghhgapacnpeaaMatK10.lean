/-
  Plain law: the list of peaks.
-/
import Derived.Test.YtjghhgapacnpeaaMatK9
import Derived.Test.YtjghhgapacnpeaaMatK3
namespace Go.Proofs.Ytjghhgapacnpeaa
open Go.RowKit Go.Lib
attribute [local irreducible] World.setCell
set_option linter.unusedSimpArgs false
set_option linter.unusedVariables false


def isPk (n0 n1 n2 : Nat) (V : Nat → Int) (lev : Int) (i : Nat) : Bool := decide (lev < V i) && topB n0 n1 n2 V i
def pkAt (n1 n2 : Nat) (V : Nat → Int) (i : Nat) : Pk := ⟨at0 n1 n2 i, at1 n1 n2 i, at2 n2 i, V i⟩
def pks (n0 n1 n2 : Nat) (V : Nat → Int) (lev : Int) (k : Nat) : List Pk := ((List.range k).filter (isPk n0 n1 n2 V lev)).map (pkAt n1 n2 V)
theorem pks_yes {n0 n1 n2 : Nat} {V : Nat → Int} {lev : Int} {k : Nat} (h : isPk n0 n1 n2 V lev k = true) : pks n0 n1 n2 V lev (k + 1) = pks n0 n1 n2 V lev k ++ [pkAt n1 n2 V k] := by
  unfold pks; rw [List.range_succ, List.filter_append, List.map_append]; simp [h]
theorem pks_no {n0 n1 n2 : Nat} {V : Nat → Int} {lev : Int} {k : Nat} (h : isPk n0 n1 n2 V lev k = false) : pks n0 n1 n2 V lev (k + 1) = pks n0 n1 n2 V lev k := by
  unfold pks; rw [List.range_succ, List.filter_append, List.map_append]; simp [h]
theorem pks_le (n0 n1 n2 : Nat) (V : Nat → Int) (lev : Int) (k : Nat) : (pks n0 n1 n2 V lev k).length ≤ k := by
  unfold pks
  rw [List.length_map]
  exact Nat.le_trans (List.length_filter_le _ _) (by simp)
theorem wr1_to {n p q d : Nat} (hq : q < n) (h : p + d = q + 1) : wr1 n p d = q := by
  unfold wr1
  rw [show (p : Int) + d - 1 = (q : Int) by omega, Int.emod_eq_of_lt (by omega) (by omega)]
  omega
/-- Places whose parts differ by one at most are neighbours. -/
theorem near_nb {n0 n1 n2 i j : Nat} (hi : i < n0 * n1 * n2) (hj : j < n0 * n1 * n2) (h1 : 0 < n1) (h2 : 0 < n2) (a0 : at0 n1 n2 i ≤ at0 n1 n2 j + 1 ∧ at0 n1 n2 j ≤ at0 n1 n2 i + 1) (a1 : at1 n1 n2 i ≤ at1 n1 n2 j + 1 ∧ at1 n1 n2 j ≤ at1 n1 n2 i + 1) (a2 : at2 n2 i ≤ at2 n2 j + 1 ∧ at2 n2 j ≤ at2 n2 i + 1) :
    ∃ s, s < 27 ∧ nb n0 n1 n2 i s = j := by
  have b0 := at0_lt hj; have b1 := at1_lt (n2 := n2) (i := j) h1; have b2 := at2_lt (i := j) h2
  have hjj := enc_at n1 n2 j
  generalize at0 n1 n2 j = p at *; generalize at1 n1 n2 j = q at *; generalize at2 n2 j = r at *
  obtain ⟨d0, e0⟩ : ∃ d, at0 n1 n2 i + d = p + 1 := ⟨p + 1 - at0 n1 n2 i, by omega⟩
  obtain ⟨d1, e1⟩ : ∃ d, at1 n1 n2 i + d = q + 1 := ⟨q + 1 - at1 n1 n2 i, by omega⟩
  obtain ⟨d2, e2⟩ : ∃ d, at2 n2 i + d = r + 1 := ⟨r + 1 - at2 n2 i, by omega⟩
  refine ⟨(d0 * 3 + d1) * 3 + d2, by omega, ?_⟩
  unfold nb
  rw [show ((d0 * 3 + d1) * 3 + d2) / 9 = d0 by omega, show ((d0 * 3 + d1) * 3 + d2) / 3 % 3 = d1 by omega, show ((d0 * 3 + d1) * 3 + d2) % 3 = d2 by omega]
  rw [wr1_to b0 e0, wr1_to b1 e1, wr1_to b2 e2]
  exact hjj
theorem isPk_lt {n0 n1 n2 : Nat} {V : Nat → Int} {lev : Int} {i : Nat} (h : isPk n0 n1 n2 V lev i = true) : lev < V i := by
  unfold isPk at h
  exact of_decide_eq_true (Bool.and_eq_true_iff.1 h).1
theorem isPk_top {n0 n1 n2 : Nat} {V : Nat → Int} {lev : Int} {i : Nat} (h : isPk n0 n1 n2 V lev i = true) (s : Nat) (hs : s < 27) : beats V (nb n0 n1 n2 i s) i = false := by
  unfold isPk topB at h
  have := (List.all_eq_true.1 (Bool.and_eq_true_iff.1 h).2) s (List.mem_range.2 hs)
  simpa using this
theorem beats_not {V : Nat → Int} {i j : Nat} (h : beats V j i = false) : V j ≤ V i ∧ (j < i → V j < V i) := by
  unfold beats at h
  have h' := of_decide_eq_false h
  refine ⟨?_, fun hj => ?_⟩
  · rcases Nat.lt_trichotomy j i with q | q | q
    · omega
    · subst q; exact Int.le_refl _
    · omega
  · omega
/-- No two peaks are neighbours. -/
theorem pk_apart {n0 n1 n2 : Nat} {V : Nat → Int} {lev : Int} {i j : Nat} (hi : i < n0 * n1 * n2) (hj : j < n0 * n1 * n2) (h1 : 0 < n1) (h2 : 0 < n2) (pi : isPk n0 n1 n2 V lev i = true) (pj : isPk n0 n1 n2 V lev j = true) (hij : i < j)
    (a0 : at0 n1 n2 i / 2 = at0 n1 n2 j / 2) (a1 : at1 n1 n2 i / 2 = at1 n1 n2 j / 2) (a2 : at2 n2 i / 2 = at2 n2 j / 2) : False := by
  obtain ⟨s, hs, es⟩ := near_nb hi hj h1 h2 (by omega) (by omega) (by omega)
  obtain ⟨t, ht, et⟩ := near_nb hj hi h1 h2 (by omega) (by omega) (by omega)
  have b1 := beats_not (es ▸ isPk_top pi s hs)
  have b2 := beats_not (et ▸ isPk_top pj t ht)
  have := b2.2 hij
  omega
def blk (n1 n2 i : Nat) : Nat := (at0 n1 n2 i / 2 * 2 + at1 n1 n2 i / 2) * 2 + at2 n2 i / 2
theorem pks_few {n0 n1 n2 : Nat} (V : Nat → Int) (lev : Int) (h0 : n0 ≤ 6) (h1 : 0 < n1 ∧ n1 ≤ 4) (h2 : 0 < n2 ∧ n2 ≤ 4) : (pks n0 n1 n2 V lev (n0 * n1 * n2)).length ≤ 12 := by
  unfold pks
  rw [List.length_map, ← List.length_map (f := blk n1 n2), show 12 = (List.range 12).length from by simp]
  refine List.Nodup.length_le_of_subset ?_ ?_
  · refine List.pairwise_map.2 ?_
    have hp : List.Pairwise (fun a b => a < b) ((List.range (n0 * n1 * n2)).filter (isPk n0 n1 n2 V lev)) := List.Pairwise.filter _ List.pairwise_lt_range
    refine List.Pairwise.imp_of_mem ?_ hp
    intro a b ha hb hab e
    rw [List.mem_filter, List.mem_range] at ha hb
    have c1 := at1_lt (n2 := n2) (i := a) h1.1; have c2 := at2_lt (i := a) h2.1
    have d1 := at1_lt (n2 := n2) (i := b) h1.1; have d2 := at2_lt (i := b) h2.1
    unfold blk at e
    exact pk_apart ha.1 hb.1 h1.1 h2.1 ha.2 hb.2 hab (by omega) (by omega) (by omega)
  · intro x hx
    rw [List.mem_map] at hx
    obtain ⟨a, ha, rfl⟩ := hx
    rw [List.mem_filter, List.mem_range] at ha
    have c0 := at0_lt ha.1
    have c1 := at1_lt (n2 := n2) (i := a) h1.1; have c2 := at2_lt (i := a) h2.1
    rw [List.mem_range]
    unfold blk
    omega
/-- A peak's number. -/
def pkey (n1 n2 : Nat) (p : Pk) : Int := (p.x * n1 + p.y) * n2 + p.z
theorem pkey_at (n1 n2 : Nat) (V : Nat → Int) (i : Nat) : pkey n1 n2 (pkAt n1 n2 V i) = i := by
  have := enc_at n1 n2 i
  unfold pkey pkAt
  unfold enc at this
  show ((at0 n1 n2 i : Int) * n1 + at1 n1 n2 i) * n2 + at2 n2 i = i
  rw [← Int.natCast_mul, ← Int.natCast_add, ← Int.natCast_mul, ← Int.natCast_add, this]
theorem pks_mem {n0 n1 n2 : Nat} {V : Nat → Int} {lev : Int} {k : Nat} {p : Pk} : p ∈ pks n0 n1 n2 V lev k ↔ ∃ i, i < k ∧ isPk n0 n1 n2 V lev i = true ∧ p = pkAt n1 n2 V i := by
  unfold pks
  rw [List.mem_map]
  constructor
  · rintro ⟨i, hi, rfl⟩
    rw [List.mem_filter, List.mem_range] at hi
    exact ⟨i, hi.1, hi.2, rfl⟩
  · rintro ⟨i, h1, h2, rfl⟩
    exact ⟨i, by rw [List.mem_filter, List.mem_range]; exact ⟨h1, h2⟩, rfl⟩
theorem pks_keys (n0 n1 n2 : Nat) (V : Nat → Int) (lev : Int) (k : Nat) : (pks n0 n1 n2 V lev k).Pairwise (fun a b => pkey n1 n2 a < pkey n1 n2 b) := by
  unfold pks
  refine List.pairwise_map.2 ?_
  refine (List.Pairwise.filter _ List.pairwise_lt_range).imp ?_
  intro a b h
  rw [pkey_at, pkey_at]
  omega
theorem pks_asc (n0 n1 n2 : Nat) (V : Nat → Int) (lev : Int) (k : Nat) : ∀ p q, p < q → q < (pks n0 n1 n2 V lev k).toArray.size → pkey n1 n2 (pks n0 n1 n2 V lev k).toArray[p]! < pkey n1 n2 (pks n0 n1 n2 V lev k).toArray[q]! := by
  intro p q hpq hq
  have hq' : q < (pks n0 n1 n2 V lev k).length := by simpa using hq
  have := List.pairwise_iff_getElem.1 (pks_keys n0 n1 n2 V lev k) p q (by omega) hq' hpq
  simpa [hq', Nat.lt_trans hpq hq'] using this
/-- The list as it is answered. -/
def sorted (n0 n1 n2 : Nat) (V : Nat → Int) (lev : Int) : Array Pk := Go.Sort.insertionSort Pk.ltv (pks n0 n1 n2 V lev (n0 * n1 * n2)).toArray 0 (pks n0 n1 n2 V lev (n0 * n1 * n2)).toArray.size
structure Ranked (n0 n1 n2 : Nat) (V : Nat → Int) (lev : Int) (d : Array Pk) : Prop where
  size : d.size = (pks n0 n1 n2 V lev (n0 * n1 * n2)).length
  all : ∀ t, t < d.size → ∃ i, i < n0 * n1 * n2 ∧ isPk n0 n1 n2 V lev i = true ∧ d[t]! = pkAt n1 n2 V i
  some : ∀ i, i < n0 * n1 * n2 → isPk n0 n1 n2 V lev i = true → ∃ t, t < d.size ∧ d[t]! = pkAt n1 n2 V i
  order : ∀ s t, s < t → t < d.size → (d[t]!).v < (d[s]!).v ∨ ((d[s]!).v = (d[t]!).v ∧ pkey n1 n2 d[s]! < pkey n1 n2 d[t]!)
theorem ranked (n0 n1 n2 : Nat) (V : Nat → Int) (lev : Int) : Ranked n0 n1 n2 V lev (sorted n0 n1 n2 V lev) := by
  have h := sorted_by Pk.v (pkey n1 n2) (pks n0 n1 n2 V lev (n0 * n1 * n2)).toArray (pks_asc n0 n1 n2 V lev _)
  change (sorted n0 n1 n2 V lev).size = _ ∧ (sorted n0 n1 n2 V lev).toList.Perm _ ∧ ∀ i j, i < j → j < (pks n0 n1 n2 V lev (n0 * n1 * n2)).toArray.size → ((sorted n0 n1 n2 V lev)[j]!).v < ((sorted n0 n1 n2 V lev)[i]!).v ∨ (((sorted n0 n1 n2 V lev)[i]!).v = ((sorted n0 n1 n2 V lev)[j]!).v ∧ pkey n1 n2 (sorted n0 n1 n2 V lev)[i]! ≤ pkey n1 n2 (sorted n0 n1 n2 V lev)[j]!) at h
  obtain ⟨h1, h2, h3⟩ := h
  generalize sorted n0 n1 n2 V lev = d at h1 h2 h3
  have hs : d.size = (pks n0 n1 n2 V lev (n0 * n1 * n2)).length := by simpa using h1
  have hget : ∀ t (ht : t < d.size), d[t]! = d.toList[t]'(by simpa using ht) := fun t ht => by simp [ht]
  have hall : ∀ t, t < d.size → ∃ i, i < n0 * n1 * n2 ∧ isPk n0 n1 n2 V lev i = true ∧ d[t]! = pkAt n1 n2 V i := by
    intro t ht
    have hm : d[t]! ∈ d.toList := by rw [hget t ht]; exact List.getElem_mem _
    have := h2.mem_iff.1 hm
    simp only at this
    exact pks_mem.1 this
  refine ⟨hs, hall, ?_, ?_⟩
  · intro i hi hp
    have hm : pkAt n1 n2 V i ∈ d.toList := h2.mem_iff.2 (by simpa using pks_mem.2 ⟨i, hi, hp, rfl⟩)
    obtain ⟨t, ht, e⟩ := List.getElem_of_mem hm
    exact ⟨t, by simpa using ht, by rw [hget t (by simpa using ht)]; exact e⟩
  · intro s t hst ht
    rcases h3 s t hst (by rw [← h1]; exact ht) with q | ⟨q1, q2⟩
    · exact .inl q
    · refine .inr ⟨q1, ?_⟩
      have hne : pkey n1 n2 d[s]! ≠ pkey n1 n2 d[t]! := by
        have hn : (pks n0 n1 n2 V lev (n0 * n1 * n2)).Pairwise (fun a b => pkey n1 n2 a ≠ pkey n1 n2 b) := (pks_keys n0 n1 n2 V lev _).imp (fun h => Int.ne_of_lt h)
        have hd : d.toList.Pairwise (fun a b => pkey n1 n2 a ≠ pkey n1 n2 b) := (h2.pairwise_iff (fun h => fun e => h e.symm)).2 (by simpa using hn)
        have := List.pairwise_iff_getElem.1 hd s t (by simp; omega) (by simpa using ht) hst
        rw [hget s (by omega), hget t ht]
        exact this
      omega
/-- Where something lies above the level, the greatest of all is the first peak. -/
theorem first_greatest {n0 n1 n2 : Nat} {V : Nat → Int} {lev : Int} {d : Array Pk} (hd : Ranked n0 n1 n2 V lev d) (h0 : 0 < n0) (h1 : 0 < n1) (h2 : 0 < n2) {most : Int} (hle : ∀ i, i < n0 * n1 * n2 → V i ≤ most) (hat : ∃ i, i < n0 * n1 * n2 ∧ V i = most) (hl : lev < most) : 0 < d.size ∧ (d[0]!).v = most := by
  have hmin : ∃ i, i < n0 * n1 * n2 ∧ V i = most ∧ ∀ j, j < i → V j ≠ most := by
    obtain ⟨i, hi⟩ := hat
    induction i using Nat.strongRecOn with
    | ind i ih =>
      by_cases c : ∃ j, j < i ∧ V j = most
      · obtain ⟨j, hj, e⟩ := c
        exact ih j hj ⟨by omega, e⟩
      · exact ⟨i, hi.1, hi.2, fun j hj e => c ⟨j, hj, e⟩⟩
  obtain ⟨i, hi, e, hf⟩ := hmin
  have hp : isPk n0 n1 n2 V lev i = true := by
    unfold isPk
    rw [Bool.and_eq_true_iff]
    refine ⟨decide_eq_true (by omega), topB_true fun s _ => ?_⟩
    have hn := nb_lt h0 h1 h2 i s
    generalize nb n0 n1 n2 i s = j at hn
    unfold beats
    refine decide_eq_false ?_
    rintro ⟨_, q | ⟨q1, q2⟩⟩
    · have := hle j hn; omega
    · exact hf j q1 (by omega)
  obtain ⟨t, ht, et⟩ := hd.some i hi hp
  refine ⟨by omega, ?_⟩
  have ev : (d[t]!).v = most := by rw [et]; exact e
  rcases Nat.eq_zero_or_pos t with z | z
  · subst z; exact ev
  · obtain ⟨j, hj, _, ej⟩ := hd.all 0 (by omega)
    have h3 : (d[0]!).v ≤ most := by rw [ej]; exact hle j hj
    rcases hd.order 0 t z ht with q | q <;> omega
theorem none_above {n0 n1 n2 : Nat} {V : Nat → Int} {lev : Int} {d : Array Pk} (hd : Ranked n0 n1 n2 V lev d) (hle : ∀ i, i < n0 * n1 * n2 → V i ≤ lev) : d.size = 0 := by
  rcases Nat.eq_zero_or_pos d.size with z | z
  · exact z
  · obtain ⟨i, hi, hp, _⟩ := hd.all 0 z
    have := isPk_lt hp
    have := hle i hi
    omega

end Go.Proofs.Ytjghhgapacnpeaa
