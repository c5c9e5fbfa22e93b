/-
  Lists and grids that are alike.
-/
import Derived.Test.YtjmhnmlmnlefaaaNttT
namespace Go.Proofs.Ytjmhnmlmnlefaaa
open Go.RowKit Go.Lib
attribute [local irreducible] World.setCell
set_option linter.unusedSimpArgs false
set_option linter.unusedVariables false


/-- A slice of n elements that reads f. -/
def Rd (w : World) (v : Value) (n : Nat) (f : Nat → Value) : Prop := ∃ a cap, v = .slice a n cap ∧ (0 < n → ∃ b off, a = some ⟨b, off, none⟩ ∧ b < w.heap.size ∧ ∀ i, i < n → w.cell? ⟨b, off + i, none⟩ = some (f i))
theorem Rd.below {w w' : World} {v : Value} {n : Nat} {f : Nat → Value} (h : Rd w v n f) (hb : Below w.heap.size w w') : Rd w' v n f := by
  obtain ⟨a, cap, rfl, h⟩ := h
  refine ⟨a, cap, rfl, fun q => ?_⟩
  obtain ⟨b, off, rfl, hl, hc⟩ := h q
  exact ⟨b, off, rfl, Nat.lt_of_lt_of_le hl hb.size, fun i hi => (hb.cell (p := ⟨b, off + i, none⟩) hl).trans (hc i hi)⟩
theorem Rd.congr {w : World} {v : Value} {n : Nat} {f g : Nat → Value} (h : Rd w v n f) (e : ∀ i, i < n → f i = g i) : Rd w v n g := by
  obtain ⟨a, cap, rfl, h⟩ := h
  refine ⟨a, cap, rfl, fun q => ?_⟩
  obtain ⟨b, off, rfl, hl, hc⟩ := h q
  exact ⟨b, off, rfl, hl, fun i hi => by rw [← e i hi]; exact hc i hi⟩
theorem rd_row {w : World} {g n : Nat} {t : TypeId} {f : Nat → Value} (h : w.rowIs g t n f) : Rd w (.slice (some ⟨g, 0, none⟩) n n) n f :=
  ⟨_, _, rfl, fun _ => ⟨g, 0, rfl, h.lt, fun i hi => by rw [Nat.zero_add]; exact h.cell hi⟩⟩
theorem rd_made {w : World} {B n : Nat} {v : Value} {f : Nat → F} (h : Made w B v n f) : Rd w v n (fun i => wd (f i)) := by
  rcases Nat.eq_zero_or_pos n with e | e
  · subst e
    rcases h.2 with ⟨rfl, _⟩ | ⟨g, cap, cur, rfl, _⟩
    · exact ⟨_, _, rfl, fun q => absurd q (Nat.lt_irrefl _)⟩
    · exact ⟨_, _, rfl, fun q => absurd q (Nat.lt_irrefl _)⟩
  · obtain ⟨g, cap, rfl, _, hl, hc⟩ := h.slice e
    exact ⟨_, _, rfl, fun _ => ⟨g, 0, rfl, hl, hc⟩⟩
theorem rd_nil (w : World) (f : Nat → Value) : Rd w (.slice none 0 0) 0 f := ⟨_, _, rfl, fun q => absurd q (Nat.lt_irrefl _)⟩
theorem neq_false {a b : Int} (h : a = b) : (a != b) = false := by rw [h]; simp
set_option maxHeartbeats 2000000 in
theorem same_words {w : World} {va vb : Value} {n : Nat} {X : Nat → Nat} (hA : Rd w va n (fun i => wn (X i))) (hB : Rd w vb n (fun i => wn (X i))) (hn : n ≤ 17592186044416) :
    Calls Try.prog 28 #[va, vb] w fun e w' => e = .returned (.bool true) ∧ ∃ k, w' = w.drewN k := by
  obtain ⟨a, ca, rfl, hA⟩ := hA
  obtain ⟨b, cb, rfl, hB⟩ := hB
  have hni : (n : Int) ≤ 17592186044416 := by omega
  clear hn
  rcases Nat.eq_zero_or_pos n with e | e
  · subst e
    clear hA hB
    go_enter Try.func28, Try.ntmps28
    go_wp2
    refine wp_loop_rounds 1 ?_
    rw [rounds_succ]
    go_wp2
    go_ret
    exact ⟨rfl, 0, rfl⟩
  · obtain ⟨ga, oa, rfl, hla, hca⟩ := hA e
    obtain ⟨gb, ob, rfl, hlb, hcb⟩ := hB e
    have HA := Lib.hid hca; have HB := Lib.hid hcb; clear hA hB hca hcb
    go_enter Try.func28, Try.ntmps28
    go_wp2
    go_loopw [13] (fun i wr => ∃ k q : Nat, k ≤ n ∧ i = .int .i64 k ∧ wr = w.drewN q) (fun i _ => n - (RowKit.intOf i).toNat)
    case atStart => exact ⟨0, 0, Nat.zero_le _, rfl, rfl⟩
    case round =>
      obtain ⟨k, q, hk, rfl, rfl⟩ := hrel
      by_cases hkn : k < n
      · have c1 : w.cell? ⟨ga, oa + k, none⟩ = some (.int .u64 ((X k : Nat) : Int)) := HA.out k hkn
        have c2 : w.cell? ⟨gb, ob + k, none⟩ = some (.int .u64 ((X k : Nat) : Int)) := HB.out k hkn
        have hkl : (k : Int) < (n : Int) := by omega
        go_wp2
        go_quiet (fail)
        go_wp2
        go_roundw
        case rel => exact ⟨k + 1, _, by omega, by go_num, rfl⟩
        case measure => simp [RowKit.intOf]; omega
      · go_wp2
        go_ret
        exact ⟨rfl, _, rfl⟩
set_option maxHeartbeats 2000000 in
theorem same_counts {w : World} {n0 n1 n2 : Int} {va vb : Value} {n : Nat} {V : Nat → Int} (hA : Rd w va n (fun i => .int .i64 (V i))) (hB : Rd w vb n (fun i => .int .i64 (V i))) (hn : n ≤ 17592186044416) :
    Calls Try.prog 17 #[.agg #[.int .i64 n0, .int .i64 n1, .int .i64 n2, va], .agg #[.int .i64 n0, .int .i64 n1, .int .i64 n2, vb]] w fun e w' => e = .returned (.bool true) ∧ Below w.heap.size w w' := by
  obtain ⟨a, ca, rfl, hA⟩ := hA
  obtain ⟨b, cb, rfl, hB⟩ := hB
  have hni : (n : Int) ≤ 17592186044416 := by omega
  clear hn
  rcases Nat.eq_zero_or_pos n with e | e
  · subst e
    clear hA hB
    go_enter Try.func17, Try.ntmps17
    go_wp2
    refine wp_loop_rounds 1 ?_
    rw [rounds_succ]
    go_wp2
    go_ret
    exact ⟨rfl, ((Below.refl _ _).alloc (Nat.le_refl _) _).alloc (by simp) _⟩
  · obtain ⟨ga, oa, rfl, hla, hca⟩ := hA e
    obtain ⟨gb, ob, rfl, hlb, hcb⟩ := hB e
    have HA := Lib.hid hca; have HB := Lib.hid hcb; clear hA hB hca hcb
    go_enter Try.func17, Try.ntmps17
    go_wp2
    go_loopw [23] (fun i wr => ∃ k : Nat, k ≤ n ∧ i = .int .i64 k ∧ Below w.heap.size w wr ∧ wr.cell? ⟨w.heap.size, 3, none⟩ = some (.slice (some ⟨ga, oa, none⟩) n ca) ∧ wr.cell? ⟨w.heap.size + 1, 3, none⟩ = some (.slice (some ⟨gb, ob, none⟩) n cb)) (fun i _ => n - (RowKit.intOf i).toNat)
    case atStart => exact ⟨0, Nat.zero_le _, rfl, ((Below.refl _ _).alloc (Nat.le_refl _) _).alloc (by simp) _, by go_simp, by go_simp⟩
    case round =>
      obtain ⟨k, hk, rfl, hb, b0, b1⟩ := hrel
      have QB := Lib.hid hb
      by_cases hkn : k < n
      · have c1 : wr.cell? ⟨ga, oa + k, none⟩ = some (.int .i64 (V k)) := (hb.cell (p := ⟨ga, oa + k, none⟩) hla).trans (HA.out k hkn)
        have c2 : wr.cell? ⟨gb, ob + k, none⟩ = some (.int .i64 (V k)) := (hb.cell (p := ⟨gb, ob + k, none⟩) hlb).trans (HB.out k hkn)
        have hkl : (k : Int) < (n : Int) := by omega
        clear hb
        go_wp2
        go_quiet (fail)
        go_wp2
        go_roundw
        case rel => exact ⟨k + 1, by omega, by go_num, below_drewN QB.out _, b0, b1⟩
        case measure => simp [RowKit.intOf]; omega
      · clear hb
        go_wp2
        go_ret
        exact ⟨rfl, QB.out⟩

end Go.Proofs.Ytjmhnmlmnlefaaa
