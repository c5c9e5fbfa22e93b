/-
  patterson.top.
-/
import Derived.Test.YtjghhgapacnpeaaMatK8
import Derived.Deep.RegionHeld3
namespace Go.Proofs.Ytjghhgapacnpeaa
open Go.RowKit Go.Lib
attribute [local irreducible] World.setCell
set_option linter.unusedSimpArgs false
set_option linter.unusedVariables false


theorem within_nat (n0 n1 n2 q0 q1 q2 : Nat) (a b c : Int) (w : World) (h0 : 0 < n0 ∧ n0 ≤ 192) (h1 : 0 < n1 ∧ n1 ≤ 192) (h2 : 0 < n2 ∧ n2 ≤ 192) (e0 : a % n0 = q0) (e1 : b % n1 = q1) (e2 : c % n2 = q2) : Calls Try.prog 39 #[.agg #[.int .i64 n0, .int .i64 n1, .int .i64 n2], .agg #[.int .i64 a, .int .i64 b, .int .i64 c]] w fun e w' => e = .returned (.agg #[.int .i64 q0, .int .i64 q1, .int .i64 q2]) ∧ Below w.heap.size w w' := by
  rw [← e0, ← e1, ← e2]
  exact within_any n0 n1 n2 a b c w h0 h1 h2
theorem number_nat (n0 n1 n2 a b c j : Nat) (w : World) (h1 : n1 ≤ 192) (h2 : n2 ≤ 192) (ha : a ≤ 192) (hb : b ≤ 192) (hc : c ≤ 192) (e : (a * n1 + b) * n2 + c = j) : Calls Try.prog 38 #[.agg #[.int .i64 n0, .int .i64 n1, .int .i64 n2], .agg #[.int .i64 a, .int .i64 b, .int .i64 c]] w fun e w' => e = .returned (.int .i64 j) ∧ Below w.heap.size w w' := by
  rw [← e]
  exact number_any n0 n1 n2 a b c w h1 h2 ha hb hc
/-- A step's part at one axis: n sides, at p, step d - 1. -/
def wr1 (n p d : Nat) : Nat := (((p : Int) + d - 1) % n).toNat
theorem wr1_eq {n p d : Nat} (h : 0 < n) : ((p : Int) + d - 1) % n = (wr1 n p d : Int) := by
  unfold wr1
  have := Int.emod_nonneg ((p : Int) + d - 1) (show (n : Int) ≠ 0 by omega)
  omega
theorem wr1_lt {n p d : Nat} (h : 0 < n) : wr1 n p d < n := by
  have h1 := wr1_eq (n := n) (p := p) (d := d) h
  have := Int.emod_lt_of_pos ((p : Int) + d - 1) (show (0 : Int) < n by omega)
  omega
/-- The neighbour of i at a step. -/
def nb (n0 n1 n2 i s : Nat) : Nat := enc n1 n2 (wr1 n0 (at0 n1 n2 i) (s / 9)) (wr1 n1 (at1 n1 n2 i) (s / 3 % 3)) (wr1 n2 (at2 n2 i) (s % 3))
theorem nb_lt {n0 n1 n2 : Nat} (h0 : 0 < n0) (h1 : 0 < n1) (h2 : 0 < n2) (i s : Nat) : nb n0 n1 n2 i s < n0 * n1 * n2 := enc_lt (wr1_lt h0) (wr1_lt h1) (wr1_lt h2)
/-- j is better than i. -/
def beats (V : Nat → Int) (j i : Nat) : Bool := decide (j ≠ i ∧ (V i < V j ∨ (j < i ∧ V i = V j)))
def topB (n0 n1 n2 : Nat) (V : Nat → Int) (i : Nat) : Bool := (List.range 27).all fun s => ! beats V (nb n0 n1 n2 i s) i
theorem topB_false {n0 n1 n2 : Nat} {V : Nat → Int} {i s : Nat} (hs : s < 27) (h : beats V (nb n0 n1 n2 i s) i = true) : topB n0 n1 n2 V i = false := by
  unfold topB
  rw [List.all_eq_false]
  exact ⟨s, List.mem_range.2 hs, by simp [h]⟩
theorem topB_true {n0 n1 n2 : Nat} {V : Nat → Int} {i : Nat} (h : ∀ s, s < 27 → beats V (nb n0 n1 n2 i s) i = false) : topB n0 n1 n2 V i = true := by
  unfold topB
  rw [List.all_eq_true]
  intro s hs
  simp [h s (List.mem_range.1 hs)]
set_option maxHeartbeats 40000000 in
set_option maxRecDepth 100000 in
theorem top_any (n0 n1 n2 i L bk off cap : Nat) (V : Nat → Int) (w : World) (h0 : 0 < n0 ∧ n0 ≤ 192) (h1 : 0 < n1 ∧ n1 ≤ 192) (h2 : 0 < n2 ∧ n2 ≤ 192) (hL : L = n0 * n1 * n2) (hi : i < L) (hLb : L ≤ 262144) (hbk : bk < w.heap.size)
    (hV : ∀ k, k < L → w.cell? ⟨bk, off + k, none⟩ = some (.int .i64 (V k))) :
    Calls Try.prog 32 #[.agg #[.int .i64 n0, .int .i64 n1, .int .i64 n2, .slice (some ⟨bk, off, none⟩) L cap], .int .i64 i] w fun e w' => e = .returned (.bool (topB n0 n1 n2 V i)) ∧ Below w.heap.size w w' := by
  have HV := Lib.hid hV
  have HS := Lib.hid (And.intro h0 (And.intro h1 h2))
  have HI := Lib.hid (show i ≤ 7077888 by omega)
  have HNB := Lib.hid (fun s => hL ▸ nb_lt (n0 := n0) (n1 := n1) (n2 := n2) h0.1 h1.1 h2.1 i s : ∀ s, nb n0 n1 n2 i s < L)
  have p0lt : at0 n1 n2 i < n0 := at0_lt (hL ▸ hi)
  have p1lt : at1 n1 n2 i < n1 := at1_lt h1.1
  have p2lt : at2 n2 i < n2 := at2_lt h2.1
  have HP := Lib.hid (show ∀ s, nb n0 n1 n2 i s = enc n1 n2 (wr1 n0 (at0 n1 n2 i) (s / 9)) (wr1 n1 (at1 n1 n2 i) (s / 3 % 3)) (wr1 n2 (at2 n2 i) (s % 3)) from fun _ => rfl)
  have HPL := fun w' => place_any n0 n1 n2 i w' h1 h2 HI.out
  obtain ⟨p0, ep0⟩ : ∃ p, p = at0 n1 n2 i := ⟨_, rfl⟩
  obtain ⟨p1, ep1⟩ : ∃ p, p = at1 n1 n2 i := ⟨_, rfl⟩
  obtain ⟨p2, ep2⟩ : ∃ p, p = at2 n2 i := ⟨_, rfl⟩
  rw [← ep0] at p0lt HP HPL
  rw [← ep1] at p1lt HP HPL
  rw [← ep2] at p2lt HP HPL
  have HPL' := Lib.hid HPL
  have a0 : (p0 : Int) < 192 := by omega
  have a1 : (p1 : Int) < 192 := by omega
  have a2 : (p2 : Int) < 192 := by omega
  have iL : (i : Int) < L := by omega
  have lL : (L : Int) ≤ 262144 := by omega
  clear HPL hV h0 h1 h2 hL hLb ep0 ep1 ep2 p0lt p1lt p2lt hi
  go_enter Try.func32, Try.ntmps32
  go_wp2_with (go_at_call 33; refine (HPL'.out _).mono ?_; rintro e w' ⟨rfl, hb⟩)
  have hbase := (Below.refl w.heap.size w).alloc (Nat.le_refl _) (.cells #[.int .i64 n0, .int .i64 n1, .int .i64 n2, .slice (some ⟨bk, off, none⟩) L cap] 49)
  have hrow := v4_row w n0 n1 n2 (.slice (some ⟨bk, off, none⟩) L cap)
  have hz := hb.size
  simp only [World.size_alloc] at hz
  have hbel : Below w.heap.size w w' := hbase.trans (hb.mono (by simp))
  have hrw := hrow.of_block (hb.block _ hrow.lt)
  clear hb hbase hrow
  refine wp_abs (fun X => Has [⟨w.heap.size, 49, 4, v4 n0 n1 n2 (.slice (some ⟨bk, off, none⟩) L cap)⟩, ⟨w'.heap.size, 30, 3, v3 p0 p1 p2⟩] X ∧ Below w.heap.size w X) ⟨.cons ?_ (.cons ?_ (.nil _)), (by repeat (first | assumption | exact Below.refl _ _ | refine below_drewN ?_ _ | refine Below.drew ?_ | refine Below.alloc ?_ (by first | (simp; done) | (simp; omega) | omega) _ | refine Below.setCell ?_ (by first | (simp; done) | (simp; omega) | omega) _))⟩ ?_
  · repeat (first | exact hrw | refine World.rowIs.setOther ?_ (by omega) _ | refine World.rowIs.alloc ?_ _)
  · exact v3_row w' p0 p1 p2
  intro X hX
  obtain ⟨RH, HB⟩ := hX
  have RH0 := Lib.hid RH; have HB0 := Lib.hid HB
  have hne : w.heap.size ≠ w'.heap.size := by omega
  clear hbel hrw hz RH HB
  generalize w'.heap.size = g5 at *
  clear w'
  go_loopw [12] (fun y wr => ∃ k : Nat, k ≤ 27 ∧ y = .int .i64 k ∧ (∀ s, s < k → beats V (nb n0 n1 n2 i s) i = false) ∧ Has [⟨w.heap.size, 49, 4, v4 n0 n1 n2 (.slice (some ⟨bk, off, none⟩) L cap)⟩, ⟨g5, 30, 3, v3 p0 p1 p2⟩] wr ∧ Below w.heap.size w wr) (fun y _ => 27 - (RowKit.intOf y).toNat)
  case atStart => exact ⟨0, by omega, rfl, fun s hs => absurd hs (Nat.not_lt_zero _), RH0.out, HB0.out⟩
  case round =>
    obtain ⟨k, hk, rfl, hall, hrh, hhb⟩ := hrel
    have RHr := Lib.hid hrh; have HBr := Lib.hid hhb; have HAL := Lib.hid hall
    clear hrh hhb hall RH0 HB0 HPL'
    by_cases hkn : k < 27
    · have hki : (k : Int) < 27 := by omega
      obtain ⟨d9, e9⟩ : ∃ d, d = k / 9 := ⟨_, rfl⟩
      obtain ⟨d3, e3⟩ : ∃ d, d = k / 3 := ⟨_, rfl⟩
      obtain ⟨m3, f3⟩ : ∃ d, d = d3 % 3 := ⟨_, rfl⟩
      obtain ⟨r3, g3⟩ : ∃ d, d = k % 3 := ⟨_, rfl⟩
      have hnb := HP.out k
      rw [← e9, ← e3, ← f3, ← g3] at hnb
      have w0e : ((p0 : Int) + d9 - 1) % n0 = (wr1 n0 p0 d9 : Int) := wr1_eq HS.out.1.1
      have w1e : ((p1 : Int) + m3 - 1) % n1 = (wr1 n1 p1 m3 : Int) := wr1_eq HS.out.2.1.1
      have w2e : ((p2 : Int) + r3 - 1) % n2 = (wr1 n2 p2 r3 : Int) := wr1_eq HS.out.2.2.1
      have w0l := wr1_lt (p := p0) (d := d9) HS.out.1.1
      have w1l := wr1_lt (p := p1) (d := m3) HS.out.2.1.1
      have w2l := wr1_lt (p := p2) (d := r3) HS.out.2.2.1
      obtain ⟨q0, eq0⟩ : ∃ q, q = wr1 n0 p0 d9 := ⟨_, rfl⟩
      obtain ⟨q1, eq1⟩ : ∃ q, q = wr1 n1 p1 m3 := ⟨_, rfl⟩
      obtain ⟨q2, eq2⟩ : ∃ q, q = wr1 n2 p2 r3 := ⟨_, rfl⟩
      rw [← eq0] at hnb w0e w0l
      rw [← eq1] at hnb w1e w1l
      rw [← eq2] at hnb w2e w2l
      have CW := Lib.hid (fun w' => within_nat n0 n1 n2 q0 q1 q2 ((p0 : Int) + d9 - 1) ((p1 : Int) + m3 - 1) ((p2 : Int) + r3 - 1) w' HS.out.1 HS.out.2.1 HS.out.2.2 w0e w1e w2e)
      obtain ⟨j, ej⟩ : ∃ j, j = nb n0 n1 n2 i k := ⟨_, rfl⟩
      have jl := HNB.out k
      rw [← ej] at hnb jl
      have CN := Lib.hid (fun w' => number_nat n0 n1 n2 q0 q1 q2 j w' HS.out.2.1.2 HS.out.2.2.2 (by have := HS.out; omega) (by have := HS.out; omega) (by have := HS.out; omega) hnb.symm)
      have q9 : (k : Int) / 9 = (d9 : Int) := by omega
      have q3 : (k : Int) / 3 = (d3 : Int) := by omega
      have u3 : (d3 : Int) % 3 = (m3 : Int) := by omega
      have v3' : (k : Int) % 3 = (r3 : Int) := by omega
      have b9 : (d9 : Int) ≤ 2 := by omega
      have b3 : (d3 : Int) ≤ 8 := by omega
      have bm : (m3 : Int) ≤ 2 := by omega
      have br : (r3 : Int) ≤ 2 := by omega
      have jli : (j : Int) < L := by omega
      have EJ := Lib.hid ej
      have JL := Lib.hid jl
      clear e9 e3 f3 g3 w0e w1e w2e w0l w1l w2l eq0 eq1 eq2 hnb ej jl
      have c0 : wr.cell? ⟨w.heap.size, 0, none⟩ = some (.int .i64 n0) := (show World.rowIs wr w.heap.size 49 4 (v4 n0 n1 n2 (.slice (some ⟨bk, off, none⟩) L cap)) from RHr.out.one 0 (by simp)).cell (i := 0) (show 0 < 4 by decide)
      have c1 : wr.cell? ⟨w.heap.size, 1, none⟩ = some (.int .i64 n1) := (show World.rowIs wr w.heap.size 49 4 (v4 n0 n1 n2 (.slice (some ⟨bk, off, none⟩) L cap)) from RHr.out.one 0 (by simp)).cell (i := 1) (show 1 < 4 by decide)
      have c2 : wr.cell? ⟨w.heap.size, 2, none⟩ = some (.int .i64 n2) := (show World.rowIs wr w.heap.size 49 4 (v4 n0 n1 n2 (.slice (some ⟨bk, off, none⟩) L cap)) from RHr.out.one 0 (by simp)).cell (i := 2) (show 2 < 4 by decide)
      have c3 : wr.cell? ⟨w.heap.size, 3, none⟩ = some (.slice (some ⟨bk, off, none⟩) L cap) := (show World.rowIs wr w.heap.size 49 4 (v4 n0 n1 n2 (.slice (some ⟨bk, off, none⟩) L cap)) from RHr.out.one 0 (by simp)).cell (i := 3) (show 3 < 4 by decide)
      have s0 : wr.cell? ⟨g5, 0, none⟩ = some (.int .i64 p0) := (show World.rowIs wr g5 30 3 (v3 p0 p1 p2) from RHr.out.one 1 (by simp)).cell (i := 0) (show 0 < 3 by decide)
      have s1 : wr.cell? ⟨g5, 1, none⟩ = some (.int .i64 p1) := (show World.rowIs wr g5 30 3 (v3 p0 p1 p2) from RHr.out.one 1 (by simp)).cell (i := 1) (show 1 < 3 by decide)
      have s2 : wr.cell? ⟨g5, 2, none⟩ = some (.int .i64 p2) := (show World.rowIs wr g5 30 3 (v3 p0 p1 p2) from RHr.out.one 1 (by simp)).cell (i := 2) (show 2 < 3 by decide)
      have lb : w.heap.size < wr.heap.size := (show World.rowIs wr w.heap.size 49 4 _ from RHr.out.one 0 (by simp)).lt
      have lg : g5 < wr.heap.size := (show World.rowIs wr g5 30 3 _ from RHr.out.one 1 (by simp)).lt
      go_wp2
      refine region_all (by kernel_rfl) (by kernel_rfl) ?_
      repeat (go_big_quiet_step (first | (go_at_call 39; exact held_of _ (Nat.le_refl _) (CW.out _)) | (go_at_call 38; exact held_of _ (Nat.le_refl _) (CN.out _))))
      refine wpQuiet_nil ?_
      rintro w' ⟨⟨w0, hb⟩, rfl⟩
      obtain ⟨hc, hf⟩ := bcell hb
      have hz := hb.size
      try simp at hz
      have hbw : Below w.heap.size w w' := HBr.out.trans (hb.mono HBr.out.size)
      have RHn := Lib.hid (RHr.out.step hb); have HBn := Lib.hid hbw
      have vi : w'.cell? ⟨bk, off + i, none⟩ = some (.int .i64 (V i)) := (hbw.cell (p := ⟨bk, off + i, none⟩) hbk).trans (HV.out i (by omega))
      have vj : w'.cell? ⟨bk, off + j, none⟩ = some (.int .i64 (V j)) := (hbw.cell (p := ⟨bk, off + j, none⟩) hbk).trans (HV.out j JL.out)
      have x3 : w'.cell? ⟨w.heap.size, 3, none⟩ = some (.slice (some ⟨bk, off, none⟩) L cap) := (show World.rowIs w' w.heap.size 49 4 (v4 n0 n1 n2 (.slice (some ⟨bk, off, none⟩) L cap)) from RHn.out.one 0 (by simp)).cell (i := 3) (show 3 < 4 by decide)
      obtain ⟨vI, evI⟩ : ∃ x, x = V i := ⟨_, rfl⟩
      obtain ⟨vJ, evJ⟩ : ∃ x, x = V j := ⟨_, rfl⟩
      have HBT := Lib.hid (show beats V (nb n0 n1 n2 i k) i = decide (j ≠ i ∧ (vI < vJ ∨ (j < i ∧ vI = vJ))) by rw [evI, evJ, ← EJ.out]; rfl)
      rw [← evI] at vi
      rw [← evJ] at vj
      clear c0 c1 c2 c3 s0 s1 s2 lb lg hb hc hf hbw evI evJ q9 q3 u3 v3' b9 b3 bm br CW CN HP HI HNB a0 a1 a2 HS EJ JL HV RHr HBr hz
      by_cases ji : j = i
      · have hji : (j : Int) = (i : Int) := by omega
        have hjb : ((j : Int) != (i : Int)) = false := by rw [bne_eq_false_iff_eq]; exact hji
        have HF := Lib.hid (show beats V (nb n0 n1 n2 i k) i = false by rw [HBT.out]; simp [ji])
        go_wp2
        go_quiet (fail)
        go_wp2
        go_roundw
        case rel => exact ⟨k + 1, by omega, by go_num, fun s hs => by
            rcases Nat.lt_or_ge s k with z | z
            · exact HAL.out s z
            · have : s = k := by omega
              subst this
              exact HF.out, ⟨fun r hr => (RHn.out.all r hr).of_block rfl⟩, below_drewN HBn.out _⟩
        case measure => simp [RowKit.intOf]; omega
      · have hji : ¬ (j : Int) = (i : Int) := by omega
        have hjb : ((j : Int) != (i : Int)) = true := by rw [bne_iff_ne]; exact hji
        by_cases hlt : vI < vJ
        · have HF := Lib.hid (show beats V (nb n0 n1 n2 i k) i = true by rw [HBT.out]; simp [ji, hlt])
          have hld : decide (vI < vJ) = true := decide_eq_true hlt
          go_wp2
          go_quiet (fail)
          go_wp2
          go_ret
          exact ⟨congrArg (fun b => Ending.returned (.bool b)) (topB_false hkn HF.out).symm, below_drewN HBn.out _⟩
        · have hld : decide (vI < vJ) = false := decide_eq_false hlt
          by_cases hjl : (j : Int) < (i : Int)
          · by_cases he : vI = vJ
            · have HF := Lib.hid (show beats V (nb n0 n1 n2 i k) i = true by rw [HBT.out]; simp [ji, he]; omega)
              have hq1 : decide ((j : Int) < (i : Int)) = true := decide_eq_true hjl
              have hq2 : (vI == vJ) = true := by rw [beq_iff_eq]; exact he
              go_wp2
              go_quiet (fail)
              go_wp2
              go_ret
              exact ⟨congrArg (fun b => Ending.returned (.bool b)) (topB_false hkn HF.out).symm, below_drewN HBn.out _⟩
            · have HF := Lib.hid (show beats V (nb n0 n1 n2 i k) i = false by rw [HBT.out]; simp [he, hlt])
              have hq1 : decide ((j : Int) < (i : Int)) = true := decide_eq_true hjl
              have hq2 : (vI == vJ) = false := by rw [beq_eq_false_iff_ne]; exact he
              go_wp2
              go_quiet (fail)
              go_wp2
              go_roundw
              case rel => exact ⟨k + 1, by omega, by go_num, fun s hs => by
                  rcases Nat.lt_or_ge s k with z | z
                  · exact HAL.out s z
                  · have : s = k := by omega
                    subst this
                    exact HF.out, ⟨fun r hr => (RHn.out.all r hr).of_block rfl⟩, below_drewN HBn.out _⟩
              case measure => simp [RowKit.intOf]; omega
          · have HF := Lib.hid (show beats V (nb n0 n1 n2 i k) i = false by rw [HBT.out]; simp [hlt]; omega)
            have hq1 : decide (j < i) = false := decide_eq_false (by omega)
            go_wp2
            go_quiet (fail)
            go_wp2
            go_roundw
            case rel => exact ⟨k + 1, by omega, by go_num, fun s hs => by
                rcases Nat.lt_or_ge s k with z | z
                · exact HAL.out s z
                · have : s = k := by omega
                  subst this
                  exact HF.out, ⟨fun r hr => (RHn.out.all r hr).of_block rfl⟩, below_drewN HBn.out _⟩
            case measure => simp [RowKit.intOf]; omega
    · have hki : ¬ (k : Int) < 27 := by omega
      have hk7 : k = 27 := by omega
      have HT := Lib.hid (topB_true (n0 := n0) (n1 := n1) (n2 := n2) (V := V) (i := i) (fun s hs => HAL.out s (by omega)))
      go_wp2
      go_ret
      exact ⟨congrArg (fun b => Ending.returned (.bool b)) HT.out.symm, HBr.out⟩

end Go.Proofs.Ytjghhgapacnpeaa
