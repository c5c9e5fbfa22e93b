/-
  Pieces of the law WholePeaks.
-/
import Derived.Test.YtjghhgapacnpeaaMatK12
import Derived.Deep.RegionHeld3
namespace Go.Proofs.Ytjghhgapacnpeaa
open Go.RowKit Go.Lib Go.Proofs
attribute [local irreducible] World.setCell
set_option linter.unusedSimpArgs false
set_option linter.unusedVariables false


theorem sb_of {Wc w' : World} (h : Below Wc.heap.size Wc w') : Below Wc.heap.size Wc w' ∧ ∀ b o, b < Wc.heap.size → w'.cell? ⟨b, o, none⟩ = Wc.cell? ⟨b, o, none⟩ := ⟨h, fun b o hb => h.cell (p := ⟨b, o, none⟩) hb⟩
theorem sb_call {Wc w' w'' : World} (h : Below Wc.heap.size Wc w') (hb : Below w'.heap.size w' w'') : Below Wc.heap.size Wc w'' ∧ ∀ b o, b < Wc.heap.size → w''.cell? ⟨b, o, none⟩ = Wc.cell? ⟨b, o, none⟩ := sb_of (h.trans (hb.mono h.size))
def u3 (b0 b1 b2 : Nat) (i : Nat) : Value := if i = 0 then .int .u8 b0 else if i = 1 then .int .u8 b1 else .int .u8 b2
theorem u3_row (w : World) (b0 b1 b2 : Nat) : (w.alloc (.cells #[.int .u8 b0, .int .u8 b1, .int .u8 b2] 44)).rowIs w.heap.size 44 3 (u3 b0 b1 b2) :=
  World.rowIs_alloc w #[.int .u8 b0, .int .u8 b1, .int .u8 b2] 44 (u3 b0 b1 b2) (fun i hi => by match i, hi with | 0, _ => rfl | 1, _ => rfl | 2, _ => rfl)
/-- The greatest of the first k. -/
def mxv (V : Nat → Int) : Nat → Int
  | 0 => 0
  | k + 1 => if k = 0 ∨ mxv V k < V k then V k else mxv V k
theorem mxv_is (V : Nat → Int) : ∀ k, (∀ i, i < k + 1 → V i ≤ mxv V (k + 1)) ∧ ∃ i, i < k + 1 ∧ V i = mxv V (k + 1)
  | 0 => by
    have e : mxv V 1 = V 0 := rfl
    rw [Nat.zero_add, e]
    exact ⟨fun i hi => by rw [show i = 0 by omega]; exact Int.le_refl _, 0, by omega, rfl⟩
  | k + 1 => by
    obtain ⟨h1, i, hi, e⟩ := mxv_is V k
    have ed : mxv V (k + 1 + 1) = if k + 1 = 0 ∨ mxv V (k + 1) < V (k + 1) then V (k + 1) else mxv V (k + 1) := rfl
    by_cases c : mxv V (k + 1) < V (k + 1)
    · rw [ed, if_pos (.inr c)]
      refine ⟨fun j hj => ?_, k + 1, by omega, rfl⟩
      rcases (by omega : j < k + 1 ∨ j = k + 1) with q | rfl
      · have := h1 j q; omega
      · exact Int.le_refl _
    · rw [ed, if_neg (by omega)]
      refine ⟨fun j hj => ?_, i, by omega, e⟩
      rcases (by omega : j < k + 1 ∨ j = k + 1) with q | rfl
      · exact h1 j q
      · omega
theorem mxv_up {V : Nat → Int} {k : Nat} (h : k = 0 ∨ mxv V k < V k) : mxv V (k + 1) = V k := by
  show (if k = 0 ∨ mxv V k < V k then V k else mxv V k) = V k
  rw [if_pos h]
theorem mxv_keep {V : Nat → Int} {k : Nat} (h : ¬ (k = 0 ∨ mxv V k < V k)) : mxv V (k + 1) = mxv V k := by
  show (if k = 0 ∨ mxv V k < V k then V k else mxv V k) = mxv V k
  rw [if_neg h]
theorem spot_nat (n0 n1 n2 a b c j : Nat) (w : World) (h1 : n1 ≤ 192) (h2 : n2 ≤ 192) (ha : a ≤ 192) (hb : b ≤ 192) (hc : c ≤ 192) (e : (a * n1 + b) * n2 + c = j) : Calls Try.prog 21 #[.agg #[.int .i64 a, .int .i64 b, .int .i64 c], .agg #[.int .i64 n0, .int .i64 n1, .int .i64 n2]] w fun e w' => e = .returned (.int .i64 j) ∧ Below w.heap.size w w' := by
  rw [← e]
  exact spot_any n0 n1 n2 a b c w h1 h2 ha hb hc
theorem among_nat (a : Int) (n q : Nat) (w : World) (h0 : 0 < n) (h1 : n ≤ 192) (e : a % n = q) : Calls Try.prog 22 #[.int .i64 a, .int .i64 n] w fun e w' => e = .returned (.int .i64 q) ∧ w' = w := by
  rw [← e]
  exact (among_any a n w h0 h1).mono fun e w' h => ⟨h.1, h.2.symm⟩
def V37 (i : Nat) : Int := if i = 0 then 3 else 7
theorem pks37 : pks 1 1 2 V37 0 2 = [⟨0, 0, 1, 7⟩] := by kernel_rfl
theorem sorted37 : sorted 1 1 2 V37 0 = #[⟨0, 0, 1, 7⟩] := by
  unfold sorted
  have e : pks 1 1 2 V37 0 (1 * 1 * 2) = [⟨0, 0, 1, 7⟩] := pks37
  rw [e]
  unfold Go.Sort.insertionSort
  exact outer_end _ _ _ _ _ (by simp)
theorem lit37 (X : World) : ∀ k, k < 2 → (X.alloc (.cells #[.int .i64 3, .int .i64 7] 3)).cell? ⟨X.heap.size, 0 + k, none⟩ = some (.int .i64 (V37 k)) := fun k hk => by
  rw [Nat.zero_add]
  exact (World.rowIs_alloc X #[.int .i64 3, .int .i64 7] 3 (fun k => .int .i64 (V37 k)) (fun i hi => by match i, hi with | 0, _ => rfl | 1, _ => rfl)).cell hk
/-- What the law's state holds. -/
structure PS (w : World) (rows : List Row) (v : Value) (d : Array Pk) (X : World) : Prop where
  has : Has rows X
  pk : PkRow X v d
  bel : Below w.heap.size w X
theorem PS.step {w X Y : World} {rows : List Row} {v : Value} {d : Array Pk} (h : PS w rows v d X) (hb : Below X.heap.size X Y) : PS w rows v d Y := ⟨h.has.step hb, h.pk.below hb, h.bel.trans (hb.mono h.bel.size)⟩
theorem PkRow.at {w : World} {g n cap t : Nat} {d : Array Pk} (h : PkRow w (.slice (some ⟨g, 0, none⟩) n cap) d) (ht : t < d.size) : g < w.heap.size ∧
    w.cell? ⟨g, t * 4, none⟩ = some (.int .i64 (d[t]!).x) ∧ w.cell? ⟨g, t * 4 + 1, none⟩ = some (.int .i64 (d[t]!).y) ∧ w.cell? ⟨g, t * 4 + 2, none⟩ = some (.int .i64 (d[t]!).z) ∧ w.cell? ⟨g, t * 4 + 3, none⟩ = some (.int .i64 (d[t]!).v) := by
  obtain ⟨a, cap', e, h⟩ := h
  cases e
  obtain ⟨g', e', hg, hc⟩ := h (by omega)
  cases e'
  exact ⟨hg, hc t ht⟩
/-- A peak's neighbour holds no more. -/
theorem peak_near {n0 n1 n2 : Nat} {V : Nat → Int} {lev : Int} {i : Nat} (h : isPk n0 n1 n2 V lev i = true) {s : Nat} (hs : s < 27) : V (nb n0 n1 n2 i s) ≤ V i := (beats_not (isPk_top h s hs)).1
theorem wr1_sum {n p a : Nat} (h : 0 < n) : ((p : Int) + ((a : Int) - 1)) % n = (wr1 n p a : Int) := by
  rw [show (p : Int) + ((a : Int) - 1) = (p : Int) + a - 1 by omega]
  exact wr1_eq h
theorem near {n0 n1 n2 q p0 p1 p2 : Nat} {V : Nat → Int} {lev : Int} (hp : isPk n0 n1 n2 V lev q = true) (h0 : 0 < n0) (h1 : 0 < n1) (h2 : 0 < n2) (hnb : ∀ s, nb n0 n1 n2 q s = enc n1 n2 (wr1 n0 p0 (s / 9)) (wr1 n1 p1 (s / 3 % 3)) (wr1 n2 p2 (s % 3)))
    (u v t : Int) (hu : -1 ≤ u ∧ u ≤ 1) (hv : -1 ≤ v ∧ v ≤ 1) (ht : -1 ≤ t ∧ t ≤ 1) :
    ∃ q0 q1 q2 j : Nat, ((p0 : Int) + u) % n0 = q0 ∧ ((p1 : Int) + v) % n1 = q1 ∧ ((p2 : Int) + t) % n2 = q2 ∧ q0 < n0 ∧ q1 < n1 ∧ q2 < n2 ∧ (q0 * n1 + q1) * n2 + q2 = j ∧ j < n0 * n1 * n2 ∧ V j ≤ V q := by
  obtain ⟨a, rfl⟩ : ∃ a : Nat, u = (a : Int) - 1 := ⟨(u + 1).toNat, by omega⟩
  obtain ⟨b, rfl⟩ : ∃ a : Nat, v = (a : Int) - 1 := ⟨(v + 1).toNat, by omega⟩
  obtain ⟨c, rfl⟩ : ∃ a : Nat, t = (a : Int) - 1 := ⟨(t + 1).toNat, by omega⟩
  have hk := peak_near hp (s := (a * 3 + b) * 3 + c) (by omega)
  have hj := nb_lt h0 h1 h2 q ((a * 3 + b) * 3 + c)
  rw [hnb, show ((a * 3 + b) * 3 + c) / 9 = a by omega, show ((a * 3 + b) * 3 + c) / 3 % 3 = b by omega, show ((a * 3 + b) * 3 + c) % 3 = c by omega] at hk hj
  exact ⟨_, _, _, _, wr1_sum h0, wr1_sum h1, wr1_sum h2, wr1_lt h0, wr1_lt h1, wr1_lt h2, rfl, hj, hk⟩

end Go.Proofs.Ytjghhgapacnpeaa
