/-
  A list of small whole numbers among the arguments.
-/
import Derived.Test.YtjmhnmlmnlefaaaLists2
namespace Go.Proofs.Ytjmhnmlmnlefaaa
open Go.RowKit

section
open Go.ChangeShapes Go.WideShapes Go.ChangeAt
variable {H : Type} {enc : TypeId × Value → H} {W : World}
theorem open_i16s {b0 : Nat} {r : Reach} {v : Value} {d : DataW H} {p : List MemPlace} {ts : List TypeId} {ds : List (DataW H)} {j : Nat} (hv : Value.okWide Try.prog W r b0 61 v)
    (h : DataW.Trod enc Try.prog W 0 (fun _ => true) true 61 v d p) (hsz : (DataW.weightsEach Try.prog ts ds).all (· ≤ reachBytes) = true) (ht : ts[j]? = some 61) (hd : ds[j]? = some d) (hlt : ∀ x ∈ p, x.block < W.heap.size) : ∃ (n : Nat) (V : Nat → Int), Rd W v n (fun i => .int .i16 (V i)) ∧ n ≤ 140737488355328 ∧ ∀ i, -32768 ≤ V i ∧ V i ≤ 32767 := by
  have b3 : Try.prog.bytesOf 77 = 2 := by kernel_rfl
  obtain ⟨a0, len, cap, rfl⟩ := okWide_slice Try.underlying61 hv
  obtain ⟨fuel, hf⟩ := h
  rcases open_ints Try.underlying61 Try.underlying77 (by kernel_rfl) hf with ⟨hcs, hx⟩ | ⟨a, len', cap', zs, hcs, _, hl, hm, hz, hx, hcell, hwz⟩
  · simp [Value.cells] at hcs
    obtain ⟨rfl, rfl, rfl⟩ := hcs
    exact ⟨0, fun _ => 0, rd_nil _ _, by omega, fun _ => ⟨by show (-32768 : Int) ≤ 0; omega, by show (0 : Int) ≤ 32767; omega⟩⟩
  · simp [Value.cells] at hcs
    obtain ⟨rfl, rfl, rfl⟩ := hcs
    simp only [Prod.mk.injEq] at hx
    obtain ⟨rfl, rfl⟩ := hx
    simp only [if_true] at hz
    have hr := sized_slice hsz ht hd Try.underlying61
    rw [b3] at hr
    simp only [lits, List.length_map, List.length_take, List.length_drop, reachBytes] at hr
    refine ⟨len, fun i => zs.getD i 0, ⟨some a, cap, rfl, fun h0 => ?_⟩, by omega, fun i => ?_⟩
    · obtain ⟨b, off, rfl, hc⟩ := ints_at hcell (by omega)
      exact ⟨b, off, rfl, hlt (.cell b off) (MemPlace.mem_row.2 ⟨0, by omega, by simp⟩), fun i hi => hc i (by omega)⟩
    · by_cases q : i < zs.length
      · have hw := hwz (zs.getD i 0) (by rw [List.getD_eq_getElem?_getD, List.getElem?_eq_getElem q]; exact List.getElem_mem _)
        have e0 : IntKind.i16.min = -32768 := rfl
        have e1 : IntKind.i16.max = 32767 := rfl
        simp only [Lit.wf, Bool.and_eq_true, decide_eq_true_eq] at hw
        simp only
        omega
      · simp only [List.getD_eq_getElem?_getD, List.getElem?_eq_none (Nat.le_of_not_lt q)]
        decide
end
end Go.Proofs.Ytjmhnmlmnlefaaa
