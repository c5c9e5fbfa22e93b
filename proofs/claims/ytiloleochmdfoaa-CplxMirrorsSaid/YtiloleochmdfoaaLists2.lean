/-
  Lists of pairs of patterns of bits, opened with the bounds.
-/
import Derived.Test.YtiloleochmdfoaaFrame
import Derived.Test.YtiloleochmdfoaaLawMirrors2
import Derived.Deep.Slices
import Derived.SizedLaws
namespace Go.Proofs.Ytiloleochmdfoaa
open Go.ChangeShapes Go.WideShapes Go.ChangeAt Go.RowKit

set_option maxRecDepth 100000
theorem u64_lt {a : Int} (h : (Lit.int .u64 a).wf = true) : a < 18446744073709551616 := by
  have h1 : IntKind.u64.max = 18446744073709551615 := rfl
  simp only [Lit.wf, Bool.and_eq_true, decide_eq_true_eq] at h
  omega

section
variable {H : Type} {enc : TypeId × Value → H} {W : World}
theorem pair_cells2 {base : Nat} {spare : Nat → Bool} {held : Bool} {n : Nat} {cs : List Value} {x : DataW H × List MemPlace} (h : DataW.trod enc Try.prog W base spare held n 23 cs = some x) (hl : cs.length = 2) :
    ∃ a b : Int, cs = [.int .u64 a, .int .u64 b] ∧ b < 18446744073709551616 := by
  have c22 : Try.prog.cellsOf 22 = 1 := by kernel_rfl
  obtain ⟨xs, m, _, _, _, hxl, hi⟩ := DataW.trod_array Try.underlying23 h
  match cs, hl with
  | [c0, c1], _ =>
    match xs, hxl with
    | [x0, x1], _ =>
      have g0 := hi 0 (by omega)
      have g1 := hi 1 (by omega)
      rw [c22] at g0 g1
      simp at g0 g1
      obtain ⟨n0, e0, _, _⟩ := DataW.trod_int Try.underlying22 g0
      obtain ⟨n1, e1, _, wf1⟩ := DataW.trod_int Try.underlying22 g1
      simp at e0 e1
      subst e0; subst e1
      exact ⟨n0, n1, rfl, u64_lt wf1⟩
theorem open_list2 {b0 : Nat} {r : Reach} {v : Value} {d : DataW H} {p : List MemPlace} {ts : List TypeId} {ds : List (DataW H)} {j : Nat} (hv : Value.okWide Try.prog W r b0 44 v)
    (h : DataW.Trod enc Try.prog W 0 (fun _ => true) true 44 v d p) (hsz : (DataW.weightsEach Try.prog ts ds).all (· ≤ reachBytes) = true) (ht : ts[j]? = some 44) (hd : ds[j]? = some d) (hlt : ∀ x ∈ p, x.block < W.heap.size) : ListArg2 W v := by
  have c23 : Try.prog.cellsOf 23 = 2 := by kernel_rfl
  have b23 : Try.prog.bytesOf 23 = 16 := by kernel_rfl
  obtain ⟨a0, len, cap, rfl⟩ := okWide_slice Try.underlying44 hv
  obtain ⟨fuel, hf⟩ := h
  rcases Go.Deep.open_slice Try.underlying44 hf with ⟨hcs, hx⟩ | ⟨a, len', cap', m, n', D, Pl, hcs, hb, hl, hm, hmm, hx, hi⟩
  · simp [Value.cells] at hcs
    obtain ⟨rfl, rfl, rfl⟩ := hcs
    exact .inl ⟨_, _, rfl⟩
  · simp [Value.cells] at hcs
    obtain ⟨rfl, rfl, rfl⟩ := hcs
    simp only [Prod.mk.injEq] at hx
    obtain ⟨rfl, rfl⟩ := hx
    simp only [if_true] at hmm
    subst hmm
    by_cases h0 : len = 0
    · subst h0; exact .inl ⟨_, _, rfl⟩
    · have hreach : len * 16 ≤ 140737488351232 := by
        have := sized_slice hsz ht hd Try.underlying44
        rw [b23] at this
        simp only [List.length_map, List.length_range, reachBytes] at this
        omega
      rw [c23] at hi hlt
      obtain ⟨b, off, spot⟩ := a
      have hc : ∀ i, i < len → ∃ (q : Int × Int), W.cell? ((Addr.mk b off spot).add (i * 2)) = some (.int .u64 q.1) ∧ W.cell? (((Addr.mk b off spot).add (i * 2)).add 1) = some (.int .u64 q.2) ∧ q.2 < 18446744073709551616 := by
        intro i hi'
        obtain ⟨cs', h1, h2⟩ := hi i (by omega)
        obtain ⟨_, hcl, hat⟩ := World.cells?_some h1
        obtain ⟨x, y, rfl, hy⟩ := pair_cells2 h2 hcl
        refine ⟨(x, y), ?_, ?_, hy⟩
        · have := hat 0 (by omega); simpa [Addr.add] using this
        · have := hat 1 (by omega); simpa using this
      have hspot : spot = none := by
        obtain ⟨q, h1, _⟩ := hc 0 (by omega)
        simpa [Addr.add] using World.cell?_spot h1
      subst hspot
      have hbW : b < W.heap.size := hlt (.cell b off) (List.mem_append_left _ (MemPlace.mem_row.2 ⟨0, by omega, by simp⟩))
      obtain ⟨f, hfx⟩ := Classical.axiomOfChoice (fun i : Nat => (by
        by_cases hi' : i < len
        · obtain ⟨q, hq⟩ := hc i hi'; exact ⟨q, fun _ => hq⟩
        · exact ⟨(0, 0), fun h => absurd h hi'⟩ : ∃ q : Int × Int, i < len → W.cell? ((Addr.mk b off none).add (i * 2)) = some (.int .u64 q.1) ∧ W.cell? (((Addr.mk b off none).add (i * 2)).add 1) = some (.int .u64 q.2) ∧ q.2 < 18446744073709551616))
      refine .inr ⟨b, off, len, _, fun k => (f k).1, fun k => (f k).2, rfl, hbW, hl, hreach, fun k hk => ?_, fun k hk => ?_, fun k hk => (hfx k hk).2.2⟩
      · have := (hfx k hk).1
        rw [add_plain, Nat.mul_comm] at this
        exact this
      · have := (hfx k hk).2.1
        rw [add_plain, add_plain, Nat.mul_comm] at this
        exact this
end

end Go.Proofs.Ytiloleochmdfoaa
