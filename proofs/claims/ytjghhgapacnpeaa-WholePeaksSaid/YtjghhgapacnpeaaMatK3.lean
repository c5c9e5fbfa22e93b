/-
  The peaks sorted: the caller's closure, and what the row holds behind the sort.
-/
import Derived.Test.YtjghhgapacnpeaaMatK1
import Derived.Test.YtjghhgapacnpeaaMatK2
import Derived.Deep.QuietTactic
import Derived.BigQuiet
namespace Go.Proofs.Ytjghhgapacnpeaa
open Go.Shelf Go.RowKit Go.Lib Go.Sort Go.Proofs
/-- A peak: its place, its number. -/
structure Pk where
  x : Int
  y : Int
  z : Int
  v : Int
deriving Inhabited
def Pk.cells (p : Pk) : List Value := [.int .i64 p.x, .int .i64 p.y, .int .i64 p.z, .int .i64 p.v]
def Pk.ltv (p q : Pk) : Bool := decide (q.v < p.v)
noncomputable def pkT : TypeInfo := (Try.prog.info? 51).get (by kernel_rfl)
noncomputable def pkE : TypeInfo := (Try.prog.info? 55).get (by kernel_rfl)
set_option maxHeartbeats 2000000 in
/-- The closure: bound to a pointer to the boxed list: it reads that cell and two of the row's. -/
theorem less_pk (blk c Bs size : Nat) (W : World) (G : Nat → Int) (hs : W.cell? ⟨Bs, 0, none⟩ = some (.slice (some ⟨blk, 0, none⟩) size c))
    (hc : ∀ t, t < size → W.cell? ⟨blk, 0 + t * 4 + 3, none⟩ = some (.int .i64 (G t))) (i j : Nat) (hi : i < size) (hj : j < size) (_hsz : size < 20) :
    Calls Try.prog 35 #[.int .i64 i, .int .i64 j, .pointer (some ⟨Bs, 0, none⟩)] W fun e w' => e = .returned (.bool (decide (G j < G i))) ∧ ∃ q, w' = W.drewN q := by
  have ci := hc i hi
  have cj := hc j hj
  rw [Nat.zero_add] at ci cj
  have hii : (i : Int) < size := by omega
  have hji : (j : Int) < size := by omega
  clear hc
  go_enter Try.func35, Try.ntmps35
  go_wp2
  go_quiet (fail)
  go_wp2
  go_ret
  exact ⟨rfl, nq, rfl⟩
theorem pkK (n : Nat) (h2 : 2 ≤ n) : Lib.swapperK n pkE 25 = 9 := by
  have a : pkE.hasPointers = false := by kernel_rfl
  have b : pkE.bytes = 32 := by kernel_rfl
  have c : (n == 0) = false := by simp; omega
  have d : (n == 1) = false := by simp; omega
  simp [Lib.swapperK, a, b, c, d]
set_option maxHeartbeats 2000000 in
theorem peaks_sorted (blk c Bs : Nat) (d : Array Pk) (h2 : 2 ≤ d.size) (h20 : d.size < 20) (w : World) (hs : w.cell? ⟨Bs, 0, none⟩ = some (.slice (some ⟨blk, 0, none⟩) d.size c)) (hB : Bs ≠ blk) (hl : Bs < w.heap.size)
    (hH : HoldsK Pk.cells 4 w blk 0 d) (hblk : blk < w.heap.size) :
    Calls Try.prog 34 #[.iface 51 (.slice (some ⟨blk, 0, none⟩) d.size c), .func (.func 35) #[] #[.pointer (some ⟨Bs, 0, none⟩)]] w fun e w' =>
      e = .returned (.tuple #[]) ∧ ∃ n os, w' = grow (putRowK Pk.cells 4 (Sort.ahead w n) blk 0 (Sort.insertionSort Pk.ltv d 0 d.size)) os := by
  have hless : LessReadsK Try.prog 35 #[.pointer (some ⟨Bs, 0, none⟩)] Pk.cells 4 Pk.ltv blk 0 d.size w := by
    intro m os dk _hsz i j hi hj
    have e : sortWorldK Pk.cells 4 w blk 0 m dk os = putRowK Pk.cells 4 (grow (Sort.ahead w m) os) blk 0 dk := by
      unfold sortWorldK; rw [putRowK_grow _ _ (Sort.ahead w m) _ blk 0 _ hblk]
    have hHg : HoldsK Pk.cells 4 (grow (Sort.ahead w m) os) blk 0 d := holdsK_grow _ _ _ _ blk 0 d hblk (holdsK_ahead _ _ _ _ _ _ _ hH)
    have hHk := holdsK_putRowK Pk.cells 4 _ blk 0 d dk hHg _hsz
    refine less_pk blk c Bs d.size _ (fun t => (dk[t]!).v) ?_ (fun t ht => ?_) i j hi hj h20
    · rw [e, cell?_putRowK_other _ _ _ blk 0 dk _ hB, cell?_grow _ _ _ (by show Bs < w.heap.size; exact hl)]
      exact hs
    · rw [e]
      have := (hHk.cell (i := t) (c := 3) (by rw [_hsz]; exact ht) (by decide)).1
      rw [this]
      rfl
  exact sliceStable_cells 51 55 pkT pkE (by kernel_rfl) (by kernel_rfl) (by kernel_rfl) (by kernel_rfl) 25 (fun _ => by kernel_rfl) Pk.cells 4 (fun _ => rfl) (by kernel_rfl) (fun _ => by kernel_rfl) (fun x v hv => by
      simp only [Pk.cells, List.mem_cons, List.not_mem_nil, or_false] at hv
      rcases hv with rfl | rfl | rfl | rfl <;> rfl) Pk.ltv 35 _
    (enters_of Try.func35 (by kernel_rfl) rfl) blk 0 c d h2 h20 52 (by rw [pkK _ h2]; kernel_rfl) false
    (fun args W => run_callFunc_extern Try.func52 (by kernel_rfl) (by kernel_rfl) (by kernel_rfl) (e := Extern.ReflectliteSwapper.swap false) (by kernel_rfl) args W) w hless hH hblk
end Go.Proofs.Ytjghhgapacnpeaa
