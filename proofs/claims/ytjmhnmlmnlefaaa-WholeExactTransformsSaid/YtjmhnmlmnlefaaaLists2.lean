/-
  A list of words among the arguments, with its bound.
-/
import Derived.Test.YtjmhnmlmnlefaaaLists
namespace Go.Proofs.Ytjmhnmlmnlefaaa
open Go.RowKit

section
open Go.ChangeShapes Go.WideShapes Go.ChangeAt
variable {H : Type} {enc : TypeId × Value → H} {W : World}
theorem open_wordsb {b0 : Nat} {r : Reach} {v : Value} {d : DataW H} {p : List MemPlace} {ts : List TypeId} {ds : List (DataW H)} {j : Nat} (hv : Value.okWide Try.prog W r b0 40 v)
    (h : DataW.Trod enc Try.prog W 0 (fun _ => true) true 40 v d p) (hsz : (DataW.weightsEach Try.prog ts ds).all (· ≤ reachBytes) = true) (ht : ts[j]? = some 40) (hd : ds[j]? = some d) (hlt : ∀ x ∈ p, x.block < W.heap.size) : ∃ (n : Nat) (X : Nat → Nat), Rd W v n (fun i => wn (X i)) ∧ n ≤ 17592186044416 := by
  have b3 : Try.prog.bytesOf 41 = 8 := by kernel_rfl
  obtain ⟨a0, len, cap, rfl⟩ := okWide_slice Try.underlying40 hv
  obtain ⟨fuel, hf⟩ := h
  rcases open_ints Try.underlying40 Try.underlying41 (by kernel_rfl) hf with ⟨hcs, hx⟩ | ⟨a, len', cap', zs, hcs, _, hl, hm, hz, hx, hcell, hwz⟩
  · simp [Value.cells] at hcs
    obtain ⟨rfl, rfl, rfl⟩ := hcs
    exact ⟨0, fun _ => 0, rd_nil _ _, by omega⟩
  · simp [Value.cells] at hcs
    obtain ⟨rfl, rfl, rfl⟩ := hcs
    simp only [Prod.mk.injEq] at hx
    obtain ⟨rfl, rfl⟩ := hx
    simp only [if_true] at hz
    have hr := sized_slice hsz ht hd Try.underlying40
    rw [b3] at hr
    simp only [lits, List.length_map, List.length_take, List.length_drop, reachBytes] at hr
    refine ⟨len, fun i => (zs.getD i 0).toNat, ⟨some a, cap, rfl, fun h0 => ?_⟩, by omega⟩
    obtain ⟨b, off, rfl, hc⟩ := ints_at hcell (by omega)
    refine ⟨b, off, rfl, hlt (.cell b off) (MemPlace.mem_row.2 ⟨0, by omega, by simp⟩), fun i hi => ?_⟩
    rw [hc i (by omega)]
    have hw := hwz (zs.getD i 0) (by rw [List.getD_eq_getElem?_getD, List.getElem?_eq_getElem (by omega)]; exact List.getElem_mem _)
    have h0 : 0 ≤ zs.getD i 0 := by
      have e0 : IntKind.u64.min = 0 := rfl
      simp only [Lit.wf, Bool.and_eq_true, decide_eq_true_eq] at hw
      omega
    show _ = some (Value.int .u64 (((zs.getD i 0).toNat : Nat) : Int))
    rw [Int.toNat_of_nonneg h0]
end
end Go.Proofs.Ytjmhnmlmnlefaaa
