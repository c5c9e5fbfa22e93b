/-
  sort.SliceStable at a slice of structs, fewer than 20 of them: what the row holds is the insertion sort's. Its conditions: the caller's closure reads alone, and the row is held.
-/
import Derived.Test.YtjghhgapacnpeaaShelf
import Derived.Test.YtjghhgapacnpeaaRows
import Derived.Shelf.GgSortFunc.SmallK
import Derived.WalkKit
import Derived.Lib.Hide
namespace Go.Proofs.Ytjghhgapacnpeaa
open Go.Shelf Go.RowKit Go.Lib Go.Sort Go.Proofs
variable {α : Type} [Inhabited α]
theorem sortWorldK_alloc (enc : α → List Value) (k : Nat) (W : World) (o : Obj) (blk off n : Nat) (X : Array α) (os : Array Obj) (hblk : blk < W.heap.size) : sortWorldK enc k (W.alloc o) blk off n X os = sortWorldK enc k W blk off n X (#[o] ++ os) := by
  unfold sortWorldK
  rw [alloc_eq_grow, ahead_grow, putRowK_grow enc k (Sort.ahead W n) _ blk off _ hblk, grow_grow]
set_option maxHeartbeats 1600000 in
set_option maxRecDepth 100000 in
theorem stable_cells (enc : α → List Value) (k : Nat) (hk : ∀ x, (enc x).length = k) (lt : α → α → Bool) (g : Nat) (lb : Array Value) (sf : Nat) (sb : Array Value) (blk off : Nat) (d : Array α) (W : World)
    (eg : ∀ args w, (callFunc g args).run Try.prog w = .ok (.enter g args) w) (hless : LessReadsK Try.prog g lb enc k lt blk off d.size W) (hswap : SwapSwapsK Try.prog sf sb enc k blk off d.size)
    (hH : HoldsK enc k W blk off d) (hblk : blk < W.heap.size) (h20 : d.size < 20) :
    Calls Try.prog 42 #[.agg #[.func (.func g) #[] lb, .func (.func sf) #[] sb], .int .i64 d.size] W fun e w' => e = .returned (.tuple #[]) ∧ ∃ n os, w' = sortWorldK enc k W blk off n (Sort.insertionSort lt d 0 d.size) os := by
  have hb1 : blk < (W.alloc (.cells #[.func (.func g) #[] lb, .func (.func sf) #[] sb] 84)).heap.size := by rw [alloc_eq_grow, size_grow]; omega
  have hc := Try.insertionSort_func_cells_w enc k hk lt g lb sf sb blk off 0 d.size d (W.alloc (.cells #[.func (.func g) #[] lb, .func (.func sf) #[] sb] 84)) eg (by rw [alloc_eq_grow]; exact hless.grow hblk _) hswap (by rw [alloc_eq_grow]; exact holdsK_grow enc k W _ blk off d hblk hH) hb1 (Nat.zero_le _) (Nat.le_refl _) (by omega)
  have HC := Lib.hid hc
  have h20i : (d.size : Int) < 20 := by omega
  clear hless hswap hH hc hb1
  go_enter Try.func42, Try.ntmps42
  go_wp2
  refine wp_loop_rounds 1 ?_
  rw [rounds_succ]
  go_wp2_with (go_at_call 53; refine HC.out.mono ?_; rintro e w1 ⟨rfl, n, os, rfl⟩)
  refine wp_loop_rounds 1 ?_
  rw [rounds_succ]
  go_wp2
  all_goals first | (exfalso; omega) | (go_end0; exact ⟨rfl, n, _, sortWorldK_alloc enc k W _ blk off n _ os hblk⟩)
/-- sort.SliceStable at 2 to 19 structs. -/
theorem sliceStable_cells (t e : TypeId) (i ie : TypeInfo) (hi : Try.prog.info? t = some i) (hd : i.desc = .slice e) (hpk : Try.prog.packed t = false) (hie : Try.prog.info? e = some ie) (ke : Nat) (hke : ∀ w, (Extern.Rtype.kind e).run Try.prog w = .ok ke w)
    (enc : α → List Value) (k : Nat) (hk : ∀ x, (enc x).length = k) (hs1 : ie.size = k) (hagg : ∀ w, (isAgg e).run Try.prog w = .ok true w) (h1 : ∀ x, ∀ v ∈ enc x, v.oneCell' = true) (lt : α → α → Bool) (g : Nat) (lb : Array Value)
    (eg : ∀ args w, (callFunc g args).run Try.prog w = .ok (.enter g args) w) (blk off c : Nat) (d : Array α) (h2 : 2 ≤ d.size) (h20 : d.size < 20)
    (f : Nat) (hf : Try.prog.funcs.findIdx? (·.name == "internal/reflectlite" ++ ".Swapper$" ++ toString (swapperK d.size ie ke)) = some f)
    (gS : Bool) (hx : ∀ args W, (callFunc f args).run Try.prog W = ((Extern.ReflectliteSwapper.swap gS args).run Try.prog W).andThen fun v w' => .ok (.value v) w')
    (w : World) (hless : LessReadsK Try.prog g lb enc k lt blk off d.size w) (hH : HoldsK enc k w blk off d) (hblk : blk < w.heap.size) :
    Calls Try.prog 34 #[.iface t (.slice (some ⟨blk, off, none⟩) d.size c), .func (.func g) #[] lb] w fun e w' =>
      e = .returned (.tuple #[]) ∧ ∃ n os, w' = grow (putRowK enc k (Sort.ahead w n) blk off (Sort.insertionSort lt d 0 d.size)) os := by
  refine Any.sort_SliceStable_of_stable Try.laysGt8 t e i ie hi hd hpk hie ke hke _ d.size c (by omega) f hf (.func g) #[] lb w _ ?_
  have hB : sliceBound Try.prog e ie ke (some ⟨blk, off, none⟩) d.size c = #[.slice (some ⟨blk, off, none⟩) d.size c, typeHandle Try.prog e] := by
    unfold sliceBound; rw [if_neg (swapperK_gt _ _ _ h2)]
  obtain ⟨os0, hW⟩ : ∃ os0, stableWorld Try.prog Try.laysGt8_ren t (some ⟨blk, off, none⟩) d.size c w = grow w os0 := ⟨_, by unfold stableWorld; rw [alloc_eq_grow, alloc_eq_grow, grow_grow]⟩
  rw [hB, hW]
  have hp := stable_cells enc k hk lt g lb f _ blk off d (grow w os0) eg (hless.grow hblk os0)
    (swapSwapsK_of_literal gS f hx e ie hie enc k hk hs1 hagg h1 blk off d.size c) (holdsK_grow enc k w _ blk off d hblk hH) (by rw [size_grow]; omega) h20
  refine hp.mono ?_
  rintro e w' ⟨rfl, n, os, rfl⟩
  exact ⟨rfl, n, _, by unfold sortWorldK; rw [ahead_grow, putRowK_grow enc k (Sort.ahead w n) _ blk off _ hblk, grow_grow]⟩
end Go.Proofs.Ytjghhgapacnpeaa
