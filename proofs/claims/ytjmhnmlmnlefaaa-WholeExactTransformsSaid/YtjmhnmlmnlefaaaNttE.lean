/-
  The transform of a line.
-/
import Derived.Test.YtjmhnmlmnlefaaaNttD
import Derived.Deep.OwnRows
namespace Go.Proofs.Ytjmhnmlmnlefaaa
open Go.RowKit Go.Lib
attribute [local irreducible] World.setCell
set_option linter.unusedSimpArgs false
set_option linter.unusedVariables false


theorem info41 : (Try.prog.info? 41).map (fun i => (i.zero, i.size, i.bytes)) = some (some (.int .u64 0), 1, 8) := by kernel_rfl
theorem mk41 (n : Nat) (h : n ≤ 4194304) (w : World) : (Instr.makeSlice 40 (.int .i64 (n : Int)) (.int .i64 (n : Int))).run Try.prog w = .ok (.slice (some ⟨w.heap.size, 0, none⟩) n n) (w.alloc (.cells (madeCells #[.int .u64 0] n) 41)) :=
  run_make_row' 40 41 (.int .u64 0) 8 Try.underlying40 info41 rfl .i64 .i64 n (by omega) (by omega) w
theorem quiet_dr {P : Program} {f : FuncId} {args : Array Value} {W0 W : World} {v : Value} (h : Calls P f args W fun e w' => e = .returned v ∧ ∃ n, w' = W.drewN n) (hW : ∃ m, W = W0.drewN m) :
    Calls P f args W fun e w' => e = .returned v ∧ ∃ m, w' = W0.drewN m :=
  h.mono fun _ _ ⟨he, n, hw⟩ => ⟨he, by obtain ⟨m, rfl⟩ := hW; exact ⟨m + n, by rw [hw, World.drewN_drewN]⟩⟩
theorem quiet_dr2 {P : Program} {f : FuncId} {args : Array Value} {W0 W : World} {a : Nat} {v : Value} (h : Calls P f args W fun e w' => e = .returned v ∧ ∃ n, w' = W.drewN n) (hW : ∃ m, W = W0.drewN (a + m)) :
    Calls P f args W fun e w' => e = .returned v ∧ ∃ m, w' = W0.drewN (a + m) :=
  h.mono fun _ _ ⟨he, n, hw⟩ => ⟨he, by obtain ⟨m, rfl⟩ := hW; exact ⟨m + n, by rw [hw, World.drewN_drewN, Nat.add_assoc]⟩⟩
/-- What a slice of words reads. -/
def Wds (w : World) (b off n : Nat) (x : Nat → F) : Prop := ∀ i, i < n → w.cell? ⟨b, off + i, none⟩ = some (wd (x i))
theorem Wds.below {w w' : World} {b off n : Nat} {x : Nat → F} (h : Wds w b off n x) (hb : b < w.heap.size) (k : Below w.heap.size w w') : Wds w' b off n x :=
  fun i hi => (k.cell (p := ⟨b, off + i, none⟩) hb).trans (h i hi)
/-- A row filled up to j. -/
def upTo (j : Nat) (f : Nat → F) (i : Nat) : Value := if i < j then wd (f i) else .int .u64 0
theorem upTo_step {w : World} {g n j : Nat} {f : Nat → F} (h : w.rowIs g 41 n (upTo j f)) (v : Value) (hv : v = wd (f j)) : (w.setCell ⟨g, j, none⟩ v).rowIs g 41 n (upTo (j + 1) f) :=
  (h.set j v).congr fun i _ => by
    unfold upTo
    by_cases e : i = j
    · subst e; rw [if_pos rfl, if_pos (by omega), hv]
    · rw [if_neg e]
      by_cases q : i < j
      · rw [if_pos q, if_pos (by omega)]
      · rw [if_neg q, if_neg (by omega)]
theorem upTo_full {w : World} {g n : Nat} {f : Nat → F} (h : w.rowIs g 41 n (upTo n f)) : w.rowIs g 41 n (fun i => wd (f i)) := h.congr fun i hi => by unfold upTo; rw [if_pos hi]
theorem upTo_none {w : World} {g n : Nat} (f : Nat → F) (h : w.rowIs g 41 n (fun _ => .int .u64 0)) : w.rowIs g 41 n (upTo 0 f) := h.congr fun i _ => by unfold upTo; rw [if_neg (by omega)]
theorem rowIs_drewN {w : World} {b n : Nat} {t : TypeId} {f : Nat → Value} (h : w.rowIs b t n f) (k : Nat) : (w.drewN k).rowIs b t n f := h
set_option maxHeartbeats 1000000 in
theorem line_odd (n b off cap : Nat) (x : Nat → F) (r : F) (w : World) (hn : n ≤ 192) (h2 : n % 2 = 1) (hb : b < w.heap.size) (hx : Wds w b off n x) :
    Calls Try.prog 45 #[.slice (some ⟨b, off, none⟩) n cap, wd r] w fun e w' => (∃ g, e = .returned (.slice (some ⟨g, 0, none⟩) n n) ∧ w.heap.size ≤ g ∧ w'.rowIs g 41 n (fun j => wd (dft n r x j))) ∧ Below w.heap.size w w' := by
  have hmk := mk41 n (by omega)
  have ht : ((n : Int) % 2 == 1) = true := by rw [beq_iff_eq]; omega
  have hm0 := w.rowIs_made (.int .u64 0) n 41
  have HX := Lib.hid hx; clear hx
  go_enter Try.func45, Try.ntmps45
  go_wp2
  go_loopw [30] (fun i wr => ∃ j : Nat, j ≤ n ∧ i = .int .i64 j ∧ wr.rowIs w.heap.size 41 n (upTo j (dft n r x)) ∧ Below w.heap.size w wr) (fun i _ => n - (RowKit.intOf i).toNat)
  case atStart => exact ⟨0, Nat.zero_le _, rfl, upTo_none _ hm0, (Below.refl _ _).alloc (Nat.le_refl _) _⟩
  case round =>
    obtain ⟨j, hj, rfl, hrow, hbel⟩ := hrel
    clear hm0 hmk ht
    have hB := hrow.lt
    have hrow' := Lib.hid hrow
    have hbel' := Lib.hid hbel
    have hX : Wds wr b off n x := HX.out.below hb hbel
    have hX' := Lib.hid hX
    have hcr : j < n → wr.cell? ⟨w.heap.size, j, none⟩ = some (upTo j (dft n r x) j) := fun h => hrow.cell h
    have hfr : wr.frozen? ⟨w.heap.size, j, none⟩ = false := hrow.frozen j
    clear hrow hbel hX
    go_wp2_with fail
    · rw [show ((j : Int)) = ((j : Nat) : Int) from rfl]
      refine (power_any r j _ (by omega)).mono ?_
      rintro e w' ⟨rfl, k0, rfl⟩
      obtain ⟨wo, rfl⟩ : ∃ wo : World, wo = wr := ⟨_, rfl⟩
      go_wp2
      go_loopw [39, 8, 10] (fun i s a wr => ∃ (k q : Nat), k ≤ n ∧ i = .int .i64 k ∧ s = wd (sm k (fun i => x i * pw r (j * i))) ∧ a = wd (pw (pw r j) k) ∧ wr = wo.drewN q) (fun i _ _ _ => n - (RowKit.intOf i).toNat)
      case atStart => exact ⟨0, k0, Nat.zero_le _, rfl, rfl, rfl, rfl⟩
      case round =>
        obtain ⟨k, q, hk, rfl, rfl, rfl, rfl⟩ := hrel
        have hc : k < n → wo.cell? ⟨b, off + k, none⟩ = some (wd (x k)) := fun h => hX'.out k h
        go_wp2_with (first | (go_at_call 39; refine (mul_any _ _ _).mono ?_; rintro e w' ⟨rfl, kk, rfl⟩) | (go_at_call 62; refine (add_any _ _ _).mono ?_; rintro e w' ⟨rfl, kk, rfl⟩))
        · go_roundw
          case rel =>
            refine ⟨k + 1, _, by omega, by go_num, ?_, ?_, rfl⟩
            · rw [sm_succ, pw_mul]
            · rw [pw_succ]
          case measure => simp [RowKit.intOf]; omega
        · have hkn : k = n := by omega
          subst hkn
          go_roundw
          case rel => exact ⟨j + 1, by omega, by go_num, upTo_step (rowIs_drewN hrow'.out q) _ rfl, (below_drewN hbel'.out q).setCell (Nat.le_refl _) _⟩
          case measure => simp [RowKit.intOf]; omega
    · have hjn : j = n := by omega
      subst hjn
      go_ret
      exact ⟨⟨_, rfl, Nat.le_refl _, upTo_full hrow'.out⟩, hbel'.out⟩

end Go.Proofs.Ytjmhnmlmnlefaaa
