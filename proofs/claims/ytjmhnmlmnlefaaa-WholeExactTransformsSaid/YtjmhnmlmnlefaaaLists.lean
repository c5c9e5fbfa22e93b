/-
  Lists among the arguments.
-/
import Derived.Test.YtjmhnmlmnlefaaaFrame
import Derived.Test.YtjmhnmlmnlefaaaNttU
import Derived.SizedLaws
namespace Go.Proofs.Ytjmhnmlmnlefaaa
open Go.RowKit

section
open Go.ChangeShapes Go.WideShapes Go.ChangeAt
variable {H : Type} {enc : TypeId × Value → H} {W : World}
theorem open_words {b0 : Nat} {r : Reach} {v : Value} {d : DataW H} {p : List MemPlace} (hv : Value.okWide Try.prog W r b0 40 v)
    (h : DataW.Trod enc Try.prog W 0 (fun _ => true) true 40 v d p) (hlt : ∀ x ∈ p, x.block < W.heap.size) : ∃ (n : Nat) (X : Nat → Nat), Rd W v n (fun i => wn (X i)) := by
  obtain ⟨a0, len, cap, rfl⟩ := okWide_slice Try.underlying40 hv
  obtain ⟨fuel, hf⟩ := h
  rcases open_ints Try.underlying40 Try.underlying41 (by kernel_rfl) hf with ⟨hcs, hx⟩ | ⟨a, len', cap', zs, hcs, _, hl, hm, hz, hx, hcell, hwz⟩
  · simp [Value.cells] at hcs
    obtain ⟨rfl, rfl, rfl⟩ := hcs
    exact ⟨0, fun _ => 0, rd_nil _ _⟩
  · simp [Value.cells] at hcs
    obtain ⟨rfl, rfl, rfl⟩ := hcs
    simp only [Prod.mk.injEq] at hx
    obtain ⟨rfl, rfl⟩ := hx
    simp only [if_true] at hz
    refine ⟨len, fun i => (zs.getD i 0).toNat, some a, cap, rfl, fun h0 => ?_⟩
    obtain ⟨b, off, rfl, hc⟩ := ints_at hcell (by omega)
    refine ⟨b, off, rfl, hlt (.cell b off) (MemPlace.mem_row.2 ⟨0, by omega, by simp⟩), fun i hi => ?_⟩
    rw [hc i (by omega)]
    have hw := hwz (zs.getD i 0) (by rw [List.getD_eq_getElem?_getD, List.getElem?_eq_getElem (by omega)]; exact List.getElem_mem _)
    have h0 : 0 ≤ zs.getD i 0 := by
      have e0 : IntKind.u64.min = 0 := rfl
      simp only [Lit.wf, Bool.and_eq_true, decide_eq_true_eq] at hw
      omega
    show _ = some (Value.int .u64 (((zs.getD i 0).toNat : Nat) : Int))
    rw [Int.toNat_of_nonneg h0]
theorem open_ints3 {b0 : Nat} {r : Reach} {v : Value} {d : DataW H} {p : List MemPlace} {ts : List TypeId} {ds : List (DataW H)} {j : Nat} (hv : Value.okWide Try.prog W r b0 24 v)
    (h : DataW.Trod enc Try.prog W 0 (fun _ => true) true 24 v d p) (hsz : (DataW.weightsEach Try.prog ts ds).all (· ≤ reachBytes) = true) (ht : ts[j]? = some 24) (hd : ds[j]? = some d) (hlt : ∀ x ∈ p, x.block < W.heap.size) : ∃ (n : Nat) (V : Nat → Int), Rd W v n (fun i => .int .i64 (V i)) ∧ n ≤ 17592186044416 := by
  have b3 : Try.prog.bytesOf 3 = 8 := by kernel_rfl
  obtain ⟨a0, len, cap, rfl⟩ := okWide_slice Try.underlying24 hv
  obtain ⟨fuel, hf⟩ := h
  rcases open_ints Try.underlying24 Try.underlying3 (by kernel_rfl) hf with ⟨hcs, hx⟩ | ⟨a, len', cap', zs, hcs, _, hl, hm, hz, hx, hcell, hwz⟩
  · simp [Value.cells] at hcs
    obtain ⟨rfl, rfl, rfl⟩ := hcs
    exact ⟨0, fun _ => 0, rd_nil _ _, by omega⟩
  · simp [Value.cells] at hcs
    obtain ⟨rfl, rfl, rfl⟩ := hcs
    simp only [Prod.mk.injEq] at hx
    obtain ⟨rfl, rfl⟩ := hx
    simp only [if_true] at hz
    have hr := sized_slice hsz ht hd Try.underlying24
    rw [b3] at hr
    simp only [lits, List.length_map, List.length_take, List.length_drop, reachBytes] at hr
    refine ⟨len, fun i => zs.getD i 0, ⟨some a, cap, rfl, fun h0 => ?_⟩, by omega⟩
    obtain ⟨b, off, rfl, hc⟩ := ints_at hcell (by omega)
    exact ⟨b, off, rfl, hlt (.cell b off) (MemPlace.mem_row.2 ⟨0, by omega, by simp⟩), fun i hi => hc i (by omega)⟩
/-- A grid among the arguments. -/
theorem open_grid {b0 : Nat} {r : Reach} {v : Value} {d : DataW H} {p : List MemPlace} {ts : List TypeId} {ds : List (DataW H)} {j : Nat} (hv : Value.okWide Try.prog W r b0 26 v)
    (h : DataW.Trod enc Try.prog W 0 (fun _ => true) true 26 v d p) (hsz : (DataW.weightsEach Try.prog ts ds).all (· ≤ reachBytes) = true) (ht : ts[j]? = some 26) (hd : ds[j]? = some d) (hlt : ∀ x ∈ p, x.block < W.heap.size) : ∃ (n0 n1 n2 : Int) (s : Value) (n : Nat) (V : Nat → Int), v = .agg #[.int .i64 n0, .int .i64 n1, .int .i64 n2, s] ∧ Rd W s n (fun i => .int .i64 (V i)) ∧ n ≤ 17592186044416 := by
  have b3 : Try.prog.bytesOf 3 = 8 := by kernel_rfl
  have c3 : Try.prog.cellsOf 3 = 1 := by kernel_rfl
  have c23 : Try.prog.cellsOf 23 = 3 := by kernel_rfl
  have c24 : Try.prog.cellsOf 24 = 1 := by kernel_rfl
  have c26 : Try.prog.cellsOf 26 = 4 := by kernel_rfl
  obtain ⟨cs, rfl, hcsz⟩ := okWide_struct Try.underlying26 hv
  obtain ⟨l⟩ := cs
  obtain ⟨fuel, hf⟩ := h
  obtain ⟨y0, y1, n, hx, _, g0, g1⟩ := trod_struct2 Try.underlying26 hf
  simp only [Prod.mk.injEq] at hx
  obtain ⟨rfl, rfl⟩ := hx
  simp only [c26] at hcsz
  match l, hcsz with
  | [k0, k1, k2, k3], _ =>
    simp [Value.cells, c23, c24] at g0 g1
    obtain ⟨ys, n', _, _, _, hyl, hj⟩ := DataW.trod_array Try.underlying23 g0
    match ys, hyl with
    | [z0, z1, z2], _ =>
      have j0 := hj 0 (by omega)
      have j1 := hj 1 (by omega)
      have j2 := hj 2 (by omega)
      simp [c3] at j0 j1 j2
      obtain ⟨a, e1, _, _⟩ := DataW.trod_int Try.underlying3 j0
      obtain ⟨b, e2, _, _⟩ := DataW.trod_int Try.underlying3 j1
      obtain ⟨c, e3, _, _⟩ := DataW.trod_int Try.underlying3 j2
      simp at e1 e2 e3
      subst e1; subst e2; subst e3
      rcases open_ints Try.underlying24 Try.underlying3 (by kernel_rfl) g1 with ⟨hcs, hx⟩ | ⟨q, len, cap, zs, hcs, _, hl, hm, hz, hx, hcell, hwz⟩
      · simp at hcs
        subst hcs
        exact ⟨a, b, c, _, 0, fun _ => 0, rfl, rd_nil _ _, by omega⟩
      · simp at hcs
        subst hcs
        subst hx
        simp only [if_true] at hz
        have hw := List.all_eq_true.1 hsz (((lits .i64 (zs.take len) : List (DataW H)).length + (lits .i64 (zs.drop len) : List (DataW H)).length) * Try.prog.bytesOf 3) (DataW.weights_mem_each ht hd _ (by
          simp only [DataW.weights, Try.underlying26]
          refine DataW.weights_mem_each (j := 1) (t := 24) rfl rfl _ ?_
          simp only [DataW.weights, Try.underlying24]
          exact List.mem_cons_self ..))
        rw [b3] at hw
        simp only [lits, List.length_map, List.length_take, List.length_drop, reachBytes, decide_eq_true_eq] at hw
        refine ⟨a, b, c, _, len, fun i => zs.getD i 0, rfl, ⟨some q, cap, rfl, fun h0 => ?_⟩, by omega⟩
        obtain ⟨bl, off, rfl, hc⟩ := ints_at hcell (by omega)
        exact ⟨bl, off, rfl, hlt (.cell bl off) (List.mem_append_right _ (MemPlace.mem_row.2 ⟨0, by omega, by simp⟩)), fun i hi => hc i (by omega)⟩
end
end Go.Proofs.Ytjmhnmlmnlefaaa
