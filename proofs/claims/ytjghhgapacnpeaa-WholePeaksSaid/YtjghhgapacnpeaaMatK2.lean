/-
  Plain law: the insertion sort keeps equals in their order.
-/
import Derived.Sort.LotA
namespace Go.Proofs.Ytjghhgapacnpeaa
open Go.Sort
/-- The greatest first; equals by their keys. -/
def byV {β : Type} (val key : β → Int) (x y : β) : Bool := decide (val y < val x ∨ (val x = val y ∧ key x < key y))
theorem byV_swo {β : Type} (val key : β → Int) : SWO (byV val key) :=
  ⟨fun x => decide_eq_false (by omega), fun x y z h1 h2 => by
    unfold byV at *
    have h1 := of_decide_eq_true h1
    have h2 := of_decide_eq_true h2
    exact decide_eq_true (by omega), fun x y z h1 h2 => by
    unfold byV at *
    have h1 := of_decide_eq_false h1
    have h2 := of_decide_eq_false h2
    exact decide_eq_false (by omega)⟩
set_option linter.unusedSimpArgs false
variable {α : Type} [Inhabited α]
theorem swp_hi {d : Array α} {j : Nat} (h : j + 1 < d.size) : (swp d (j + 1) j)[j]! = d[j + 1]! := by
  have hj : j < d.size := by omega
  simp [swp, Array.getElem!_eq_getD, Array.getD_eq_getD_getElem?, Array.getElem?_setIfInBounds, hj]
theorem swp_lo {d : Array α} {j : Nat} (h : j + 1 < d.size) : (swp d (j + 1) j)[j + 1]! = d[j]! := by
  have hj : j < d.size := by omega
  simp [swp, Array.getElem!_eq_getD, Array.getD_eq_getD_getElem?, Array.getElem?_setIfInBounds, h, hj]
theorem swp_else {d : Array α} {j p : Nat} (h1 : p ≠ j) (h2 : p ≠ j + 1) : (swp d (j + 1) j)[p]! = d[p]! := by
  simp [swp, Array.getElem!_eq_getD, Array.getD_eq_getD_getElem?, Array.getElem?_setIfInBounds, Ne.symm h1, Ne.symm h2]
theorem insInner_keep (lt : α → α → Bool) (a : Nat) : ∀ (j : Nat) (d : Array α), j < d.size → (insInner lt a j d).size = d.size ∧ (∀ p, j < p → (insInner lt a j d)[p]! = d[p]!) ∧ ∀ P : α → Prop, (∀ p, p ≤ j → P d[p]!) → ∀ p, p ≤ j → P (insInner lt a j d)[p]!
  | 0, d, _ => by unfold insInner; exact ⟨rfl, fun _ _ => rfl, fun P h => h⟩
  | j + 1, d, hj => by
    unfold insInner
    split
    · have ih := insInner_keep lt a j (swp d (j + 1) j) (by rw [swp_size]; omega)
      refine ⟨by rw [ih.1, swp_size], fun p hp => by rw [ih.2.1 p (by omega), swp_else (by omega) (by omega)], fun P h p hp => ?_⟩
      by_cases q : p = j + 1
      · subst q
        rw [ih.2.1 _ (Nat.lt_succ_self j), swp_lo hj]
        exact h j (by omega)
      · refine ih.2.2 P (fun r hr => ?_) p (by omega)
        by_cases z : r = j
        · subst z; rw [swp_hi hj]; exact h _ (Nat.le_refl _)
        · rw [swp_else z (by omega)]; exact h r (by omega)
    · exact ⟨rfl, fun _ _ => rfl, fun P h => h⟩
theorem insInner_agree (lt lt' : α → α → Bool) (a : Nat) : ∀ (j : Nat) (d : Array α), j < d.size → (∀ p, p < j → lt d[j]! d[p]! = lt' d[j]! d[p]!) → insInner lt a j d = insInner lt' a j d
  | 0, d, _, _ => by unfold insInner; rfl
  | j + 1, d, hj, h => by
    unfold insInner
    rw [h j (Nat.lt_succ_self j), insInner_agree lt lt' a j (swp d (j + 1) j) (by rw [swp_size]; omega) (fun p hp => by
      rw [swp_hi hj, swp_else (by omega) (by omega)]
      exact h p (by omega))]
theorem outer_end (lt : α → α → Bool) (a b i : Nat) (d : Array α) (h : ¬ i < b) : insOuter lt a b i d = d := by rw [insOuter, if_neg h]
theorem outer_step (lt : α → α → Bool) (a b i : Nat) (d : Array α) (h : i < b) : insOuter lt a b i d = insOuter lt a b (i + 1) (insInner lt a i d) := by rw [insOuter, if_pos h]
theorem insOuter_agree (lt lt' : α → α → Bool) (key : α → Int) (hlt : ∀ x y, key y < key x → lt x y = lt' x y) (a b : Nat) : ∀ (n i : Nat) (d : Array α), b - i = n → b ≤ d.size → (∀ p q, p < q → i ≤ q → q < b → key d[p]! < key d[q]!) → insOuter lt a b i d = insOuter lt' a b i d
  | 0, i, d, hn, _, _ => by rw [outer_end lt a b i d (by omega), outer_end lt' a b i d (by omega)]
  | n + 1, i, d, hn, hb, h => by
    have hi : i < b := by omega
    rw [outer_step lt a b i d hi, outer_step lt' a b i d hi]
    have e := insInner_agree lt lt' a i d (by omega) (fun p hp => hlt _ _ (h p i hp (Nat.le_refl _) hi))
    rw [e]
    have k := insInner_keep lt' a i d (by omega)
    refine insOuter_agree lt lt' key hlt a b n (i + 1) _ (by omega) (by rw [k.1]; exact hb) (fun p q hpq hiq hqb => ?_)
    rw [k.2.1 q (by omega)]
    by_cases z : p ≤ i
    · exact k.2.2 (fun x => key x < key d[q]!) (fun r hr => h r q (by omega) (by omega) hqb) p z
    · rw [k.2.1 p (by omega)]
      exact h p q hpq (by omega) hqb
theorem insertion_agree (lt lt' : α → α → Bool) (key : α → Int) (hlt : ∀ x y, key y < key x → lt x y = lt' x y) (d : Array α) (h : ∀ p q, p < q → q < d.size → key d[p]! < key d[q]!) : insertionSort lt d 0 d.size = insertionSort lt' d 0 d.size :=
  insOuter_agree lt lt' key hlt 0 d.size _ 1 d rfl (Nat.le_refl _) (fun p q h1 _ h2 => h p q h1 h2)
/-- What the sort by values makes of a list whose keys ascend: a permutation, the greatest first, equals by their keys. -/
theorem sorted_by (val key : α → Int) (d : Array α) (h : ∀ p q, p < q → q < d.size → key d[p]! < key d[q]!) :
    let d' := insertionSort (fun x y => decide (val y < val x)) d 0 d.size
    d'.size = d.size ∧ d'.toList.Perm d.toList ∧ ∀ i j, i < j → j < d.size → val d'[j]! < val d'[i]! ∨ (val d'[i]! = val d'[j]! ∧ key d'[i]! ≤ key d'[j]!) := by
  intro d'
  have e : d' = insertionSort (byV val key) d 0 d.size := insertion_agree _ (byV val key) key (fun x y hk => by
    unfold byV
    rw [decide_eq_decide]
    omega) d h
  have hs := insertionSort_holds (byV_swo val key) d 0 d.size (Nat.zero_le _) (Nat.le_refl _)
  rw [← e] at hs
  refine ⟨hs.1.1, ?_, fun i j hij hj => ?_⟩
  · have := hs.1.2.2
    simpa [hs.1.1, Array.extract_eq_self_of_le] using this
  · have := of_decide_eq_false (hs.2 i j (Nat.zero_le _) hij hj)
    omega
end Go.Proofs.Ytjghhgapacnpeaa
