/-
  facettop: no short edge is shorter.
-/
import Derived.Test.YtdhlkhockpblhaaCelX1
namespace Go.Proofs.Ytdhlkhockpblhaa
open Go.RowKit
attribute [local irreducible] World.setCell

set_option linter.unusedSimpArgs false
set_option linter.unusedVariables false

structure SI (w : World) (aa bb cc bc ac ab : Int) (wr : World) : Prop where
  below : Below w.heap.size w wr
  z : w.heap.size < wr.heap.size
  c0 : wr.cell? ⟨w.heap.size, 0, none⟩ = some (.int .i64 aa)
  c1 : wr.cell? ⟨w.heap.size, 1, none⟩ = some (.int .i64 bb)
  c2 : wr.cell? ⟨w.heap.size, 2, none⟩ = some (.int .i64 cc)
  c3 : wr.cell? ⟨w.heap.size, 3, none⟩ = some (.int .i64 bc)
  c4 : wr.cell? ⟨w.heap.size, 4, none⟩ = some (.int .i64 ac)
  c5 : wr.cell? ⟨w.heap.size, 5, none⟩ = some (.int .i64 ab)
theorem SI.step {w wr w2 : World} {aa bb cc bc ac ab : Int} (h : SI w aa bb cc bc ac ab wr) (hb : Below wr.heap.size wr w2) : SI w aa bb cc bc ac ab w2 := ⟨h.below.trans (hb.mono h.below.size), Nat.lt_of_lt_of_le h.z hb.size, (hb.cell (p := ⟨w.heap.size, 0, none⟩) h.z).trans h.c0, (hb.cell (p := ⟨w.heap.size, 1, none⟩) h.z).trans h.c1, (hb.cell (p := ⟨w.heap.size, 2, none⟩) h.z).trans h.c2, (hb.cell (p := ⟨w.heap.size, 3, none⟩) h.z).trans h.c3, (hb.cell (p := ⟨w.heap.size, 4, none⟩) h.z).trans h.c4, (hb.cell (p := ⟨w.heap.size, 5, none⟩) h.z).trans h.c5⟩
theorem SI.drewN {w wr : World} {aa bb cc bc ac ab : Int} (n : Nat) (h : SI w aa bb cc bc ac ab wr) : SI w aa bb cc bc ac ab (wr.drewN n) := h.step (below_drewN (Below.refl _ _) _)
set_option maxHeartbeats 1600000 in
set_option maxRecDepth 100000 in
theorem shorter_ok (aa bb cc bc ac ab l : Int) (q : Int → Int → Int → Int) (w : World) (PD : ∀ i j k : Int, (-3 ≤ i ∧ i ≤ 3) → (-3 ≤ j ∧ j ≤ 3) → (-3 ≤ k ∧ k ≤ 3) → ∀ w : World, Calls Try.prog 31 #[.agg #[.int .i64 aa, .int .i64 bb, .int .i64 cc, .int .i64 bc, .int .i64 ac, .int .i64 ab], .agg #[.int .i64 i, .int .i64 j, .int .i64 k], .agg #[.int .i64 i, .int .i64 j, .int .i64 k]] w fun e w' => e = .returned (.tuple #[.int .i64 (q i j k), .int .i64 0]) ∧ Below w.heap.size w w') (HL : ∀ i j k : Int, (-3 ≤ i ∧ i ≤ 3) → (-3 ≤ j ∧ j ≤ 3) → (-3 ≤ k ∧ k ≤ 3) → ¬ (i = 0 ∧ j = 0 ∧ k = 0) → l ≤ q i j k):
    Calls Try.prog 37 #[.agg #[.int .i64 aa, .int .i64 bb, .int .i64 cc, .int .i64 bc, .int .i64 ac, .int .i64 ab], .int .i64 l] w fun e w' => e = .returned (.bool true) ∧ Below w.heap.size w w' := by
  have P := Lib.hid PD; have H := Lib.hid HL; clear PD HL
  go_enter Try.func37, Try.ntmps37
  go_wp2
  go_loopw [5] (fun i wr => ∃ a : Int, -3 ≤ a ∧ a ≤ 4 ∧ i = .int .i64 a ∧ SI w aa bb cc bc ac ab wr) (fun i _ => (4 - intOf i).toNat)
  case atStart =>
    refine ⟨-3, by omega, by omega, rfl, ?_⟩
    constructor
    · repeat (first | exact Below.refl _ _ | assumption | exact Below.alloc (Below.refl _ _) (Nat.le_refl _) _ | refine Below.setCell ?_ (by first | (simp; done) | (simp; omega) | omega) _ | refine below_drewN ?_ _ | refine Below.alloc ?_ (by first | (simp; done) | (simp; omega) | omega) _ | refine Below.trans ?_ (Below.mono (by assumption) (by first | (simp; done) | (simp; omega) | omega)))
    · simp
    all_goals (go_simp; done)
  case round =>
    obtain ⟨a, ha0, ha1, rfl, hi⟩ := hrel
    rcases Int.lt_or_le 3 a with h3 | h3
    · obtain rfl : a = 4 := by omega
      have hBW := hi.below
      go_wp2
      refine bodyPost_ret (v := .bool true) (by simp [results, Try.results37, go_sem]) rfl ⟨rfl, ?_⟩
      repeat (first | exact Below.refl _ _ | assumption | exact Below.alloc (Below.refl _ _) (Nat.le_refl _) _ | refine Below.setCell ?_ (by first | (simp; done) | (simp; omega) | omega) _ | refine below_drewN ?_ _ | refine Below.alloc ?_ (by first | (simp; done) | (simp; omega) | omega) _ | refine Below.trans ?_ (Below.mono (by assumption) (by first | (simp; done) | (simp; omega) | omega)))
    · have da : decide (a ≤ 3) = true := decide_eq_true h3
      go_wp2
      go_loopw [6] (fun i wr => ∃ b : Int, -3 ≤ b ∧ b ≤ 4 ∧ i = .int .i64 b ∧ SI w aa bb cc bc ac ab wr) (fun i _ => (4 - intOf i).toNat)
      case atStart => exact ⟨-3, by omega, by omega, rfl, hi⟩
      case round =>
        obtain ⟨b, hb0, hb1, rfl, hj⟩ := hrel
        rcases Int.lt_or_le 3 b with g3 | g3
        · obtain rfl : b = 4 := by omega
          go_wp2
          go_roundw
          case rel => exact ⟨a + 1, by omega, by omega, by go_num, hj⟩
          case measure => simp [intOf]; omega
        · have db : decide (b ≤ 3) = true := decide_eq_true g3
          go_wp2
          go_loopw [7] (fun i wr => ∃ c : Int, -3 ≤ c ∧ c ≤ 4 ∧ i = .int .i64 c ∧ SI w aa bb cc bc ac ab wr) (fun i _ => (4 - intOf i).toNat)
          case atStart => exact ⟨-3, by omega, by omega, rfl, hj⟩
          case round =>
            obtain ⟨c, hc0, hc1, rfl, hk⟩ := hrel
            rcases Int.lt_or_le 3 c with f3 | f3
            · obtain rfl : c = 4 := by omega
              go_wp2
              go_roundw
              case rel => exact ⟨b + 1, by omega, by omega, by go_num, hk⟩
              case measure => simp [intOf]; omega
            · have dc : decide (c ≤ 3) = true := decide_eq_true f3
              have QD := P.out a b c ⟨ha0, h3⟩ ⟨hb0, g3⟩ ⟨hc0, f3⟩
              have HH := H.out a b c ⟨ha0, h3⟩ ⟨hb0, g3⟩ ⟨hc0, f3⟩
              obtain ⟨x, ex⟩ : ∃ x, x = q a b c := ⟨_, rfl⟩
              rw [← ex] at QD HH
              clear ex
              have hk0 := hk
              obtain ⟨_, hz, c0, c1, c2, c3, c4, c5⟩ := hk0
              go_wp2_with fail
              refine (QD _).mono ?_
              rintro e w2 ⟨rfl, hb2⟩
              have hk2 := hk.step hb2
              rcases Int.lt_or_le x l with hx | hx
              · obtain ⟨rfl, rfl, rfl⟩ : a = 0 ∧ b = 0 ∧ c = 0 := by
                  apply Classical.byContradiction; intro hn; have := HH hn; omega
                have dx : decide (x < l) = true := decide_eq_true hx
                clear HH QD
                go_wp2
                go_roundw
                case rel => exact ⟨1, by omega, by omega, by go_num, hk2⟩
                case measure => simp [intOf]
              · have dx : decide (x < l) = false := decide_eq_false (by omega)
                clear HH QD
                go_wp2
                go_roundw
                case rel => exact ⟨c + 1, by omega, by omega, by go_num, hk2⟩
                case measure => simp [intOf]; omega

end Go.Proofs.Ytdhlkhockpblhaa
