/-
  The sums of the document.
-/
import Derived.Test.YtjmhnmlmnlefaaaNttG
import Derived.OwnWalk
namespace Go.Proofs.Ytjmhnmlmnlefaaa
open Go.RowKit Go.Lib
attribute [local irreducible] World.setCell
set_option linter.unusedSimpArgs false
set_option linter.unusedVariables false


/-- A row as a list of values. -/
def LW (n : Nat) (f : Nat → F) : List Value := (List.range n).map fun i => wd (f i)
theorem LW_succ (n : Nat) (f : Nat → F) : LW (n + 1) f = LW n f ++ [wd (f n)] := by unfold LW; rw [List.range_succ, List.map_append]; rfl
theorem LW_len (n : Nat) (f : Nat → F) : (LW n f).length = n := by simp [LW]
theorem LW_get (n : Nat) (f : Nat → F) (i : Nat) (h : i < n) : (LW n f)[i]? = some (wd (f i)) := by simp [LW, h]
/-- A slice that a call has made reads n words, in blocks from B on. -/
def Made (w : World) (B : Nat) (v : Value) (n : Nat) (f : Nat → F) : Prop := w.ownsRow B 41 1 v n (LW n f)
theorem Made.slice {w : World} {B : Nat} {v : Value} {n : Nat} {f : Nat → F} (h : Made w B v n f) (hn : 0 < n) : ∃ g cap, v = .slice (some ⟨g, 0, none⟩) n cap ∧ B ≤ g ∧ g < w.heap.size ∧ Wds w g 0 n f := by
  have h2 := h.2
  rcases h2 with ⟨_, h0⟩ | ⟨g, cap, cur, rfl, hg, hb, _⟩
  · omega
  · refine ⟨g, cap, rfl, hg, (h.lt g rfl).2, fun i hi => ?_⟩
    rw [Nat.zero_add, World.ownsRow.cellAt h i (by omega)]
    exact LW_get n f i hi
theorem info41' : (Try.prog.info? 41).map (fun i => (i.zero, i.size, i.bytes)) = some (some (.int .u64 0), 1, 8) := info41
set_option maxHeartbeats 2000000 in
theorem sums_any (n b off cap : Nat) (x : Nat → F) (r : F) (w : World) (hn : n ≤ 192) (hb : b < w.heap.size) (hx : Wds w b off n x) :
    Calls Try.prog 52 #[.slice (some ⟨b, off, none⟩) n cap, wd r] w fun e w' => (∃ v, e = .returned v ∧ Made w' w.heap.size v n (dft n r x)) ∧ Below w.heap.size w w' := by
  obtain ⟨i0, hi, hz0, hz1, hz2⟩ := info_parts info41
  have HX := Lib.hid hx; clear hx
  go_enter Try.func52, Try.ntmps52
  go_wp2
  go_loopw [13, 5, 6] (fun i v s wr => ∃ j : Nat, j ≤ n ∧ i = .int .i64 j ∧ wr.ownsRow w.heap.size 41 1 v j (LW j (dft n r x)) ∧ s = wd (pw r j) ∧ Below w.heap.size w wr) (fun i _ _ _ => n - (RowKit.intOf i).toNat)
  case atStart => exact ⟨0, Nat.zero_le _, rfl, World.ownsRow_nil _ _ _ _, rfl, Below.refl _ _⟩
  case round =>
    obtain ⟨j, hj, rfl, hown, rfl, hbel⟩ := hrel
    have hX' := Lib.hid (HX.out.below hb hbel)
    have HO := Lib.hid hown; have HB := Lib.hid hbel; clear hown hbel
    by_cases hjn : j < n
    · obtain ⟨wo, rfl⟩ : ∃ wo : World, wo = wr := ⟨_, rfl⟩
      go_wp2
      go_loop [17, 7, 8] (fun i s a => ∃ k : Nat, k ≤ n ∧ i = .int .i64 k ∧ s = wd (sm k (fun i => x i * pw r (j * i))) ∧ a = wd (pw (pw r j) k)) (fun i _ _ => n - (RowKit.intOf i).toNat)
      case atStart => exact ⟨0, Nat.zero_le _, rfl, rfl, rfl⟩
      case round =>
        obtain ⟨k, hk, rfl, rfl, rfl⟩ := hrel
        have hc : k < n → wo.cell? ⟨b, off + k, none⟩ = some (wd (x k)) := fun h => hX'.out k h
        by_cases hkn : k < n
        · have hc := hc hkn
          go_wp2_with (first | (go_at_call 24; refine (rmul_any _ _ _).mono ?_; rintro e w' ⟨rfl, rfl⟩) | (go_at_call 47; refine (radd_any _ _ _).mono ?_; rintro e w' ⟨rfl, rfl⟩))
          go_round
          case rel =>
            refine ⟨k + 1, by omega, by go_num, ?_, ?_⟩
            · rw [sm_succ, pw_mul]
            · rw [pw_succ]
          case measure => simp [RowKit.intOf]; omega
        · have e : k = n := by omega
          have E := Lib.hid e; clear e hc
          have hs0 : wd (sm k (fun i => x i * pw r (j * i))) = wd (dft n r x j) := by rw [E.out]; rfl
          rw [hs0]
          clear hs0
          have hbs := HB.out.size
          go_wp2_with (at_builtin; refine wpList_append_own _ rfl _ _ 40 rfl w.heap.size 41 i0 (.int .u64 0) 1 8 Try.underlying40 hi hz0 hz1 hz2 rfl (by decide) _ _ _ rfl (HO.out.alloc _) ⟨wo.heap.size, 0, none⟩ 1 1 [wd (dft n r x j)] rfl rfl ?c1 ?c2 ?c3 ?c4 ?c5 ?_)
          case c2 => first | rfl | (intro u hu; simp at hu; subst hu; rfl)
          case c3 => unfold maxLen; omega
          case c4 => omega
          case c5 => first | omega | (simp; omega)
          intro v' w1 hown' hgrow _
          have hO1 : w1.ownsRow w.heap.size 41 1 v' (j + 1) (LW (j + 1) (dft n r x)) := by rw [LW_succ]; exact hown'
          have hB1 : Below w.heap.size w w1 := (HB.out.alloc (by omega) _).grown hgrow (by simp; omega) (fun k hk => (HO.out.lt k hk).1)
          have HO1 := Lib.hid hO1; have HB1 := Lib.hid hB1
          clear hown' hgrow hO1 hB1
          go_wp2_with (first | (go_at_call 24; refine (rmul_any _ _ _).mono ?_; rintro e w' ⟨rfl, rfl⟩) | (go_at_call 47; refine (radd_any _ _ _).mono ?_; rintro e w' ⟨rfl, rfl⟩))
          go_roundw
          case rel => exact ⟨j + 1, by omega, by go_num, HO1.out, rfl, HB1.out⟩
          case measure => simp [RowKit.intOf]; omega
    · go_wp2
      go_ret
      have e : j = n := by omega
      subst e
      exact ⟨⟨_, rfl, HO.out⟩, HB.out⟩

end Go.Proofs.Ytjmhnmlmnlefaaa
