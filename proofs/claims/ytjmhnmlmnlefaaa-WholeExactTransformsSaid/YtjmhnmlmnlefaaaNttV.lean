/-
  The law is awake.
-/
import Derived.Test.YtjmhnmlmnlefaaaNttU
namespace Go.Proofs.Ytjmhnmlmnlefaaa
open Go.RowKit Go.Lib
attribute [local irreducible] World.setCell
set_option linter.unusedSimpArgs false
set_option linter.unusedVariables false


theorem rt_2 : rt 2 = -1 := by
  have h := rt_half (n := 2) (by decide) (by decide) (by decide)
  rw [show 2 / 2 = 1 by decide, pw_one] at h
  exact h
def ax (i : Nat) : F := if i = 0 then 1 else 2
def aX (i : Nat) : Nat := if i = 0 then 3 else 18446744069414584320
theorem awake_line (i : Nat) (h : i < 2) : (dft 2 (rt 2) ax i).val = aX i := by
  rw [rt_2]
  match i, h with
  | 0, _ => decide +kernel
  | 1, _ => decide +kernel
def aV (i : Nat) : Int := if i = 0 then 1 else if i = 1 then 2 else 0
def aW (i : Nat) : Int := if i = 0 then 3 else if i = 1 then 4 else 0
def aZ (i : Nat) : Int := if i = 0 then 3 else if i = 1 then 10 else 8
theorem awake_fold (i : Nat) (h : i < 3) : foldZ 3 1 1 aV aW i = aZ i := by
  match i, h with
  | 0, _ => decide +kernel
  | 1, _ => decide +kernel
  | 2, _ => decide +kernel
theorem right_2 : rightB (2 : Nat) = true := by decide
theorem right_3 : rightB (3 : Nat) = true := by decide
theorem right_1 : rightB (1 : Nat) = true := by decide
theorem three_cells {w : World} {g : Nat} {a b c : Value} (h0 : w.cell? ⟨g, 0, none⟩ = some a) (h1 : w.cell? ⟨g, 1, none⟩ = some b) (h2 : w.cell? ⟨g, 2, none⟩ = some c) (f : Nat → Value) (e0 : f 0 = a) (e1 : f 1 = b) (e2 : f 2 = c) : ∀ i, i < 3 → w.cell? ⟨g, 0 + i, none⟩ = some (f i) := by
  intro i hi
  match i, hi with
  | 0, _ => rw [e0]; exact h0
  | 1, _ => rw [e1]; exact h1
  | 2, _ => rw [e2]; exact h2
theorem two_cells {w : World} {g : Nat} {a b : Value} (h0 : w.cell? ⟨g, 0, none⟩ = some a) (h1 : w.cell? ⟨g, 1, none⟩ = some b) (f : Nat → Value) (e0 : f 0 = a) (e1 : f 1 = b) : ∀ i, i < 2 → w.cell? ⟨g, 0 + i, none⟩ = some (f i) := by
  intro i hi
  match i, hi with
  | 0, _ => rw [e0]; exact h0
  | 1, _ => rw [e1]; exact h1
set_option maxHeartbeats 4000000 in
theorem awake_any (w : World) : Calls Try.prog 13 #[] w fun e w' => e = .returned (.bool true) ∧ Below w.heap.size w w' := by
  go_enter Try.func13, Try.ntmps13
  go_wp2_with fail
  refine (Line_ok w.heap.size 0 2 2 ax _ right_2 (by simp) (two_cells (a := .int .u64 1) (b := .int .u64 2) (by go_simp) (by go_simp) (fun i => wd (ax i)) rfl rfl)).mono ?_
  rintro e w1 ⟨⟨g1, rfl, hg1, hr1⟩, hb1⟩
  have hB1 : Below w.heap.size w w1 := ((Below.refl _ _).alloc (Nat.le_refl _) _).trans (hb1.mono (by simp))
  have R1 := Lib.hid (rd_row hr1)
  have B1 := Lib.hid hB1
  have hl1 : w.heap.size ≤ w1.heap.size := hB1.size
  clear hr1 hb1 hB1 hg1
  go_wp2_with fail
  refine (Fold_ok 3 1 1 3 w1.heap.size 0 3 (w1.heap.size + 1) 0 3 aV aW _ ⟨right_3, right_1, right_1⟩ rfl (by decide) (by simp; omega) (by simp) (three_cells (a := .int .i64 1) (b := .int .i64 2) (c := .int .i64 0) (by go_simp) (by go_simp) (by go_simp) (fun i => .int .i64 (aV i)) rfl rfl rfl) (fun i _ => by unfold aV; split <;> (try split) <;> omega) (three_cells (a := .int .i64 3) (b := .int .i64 4) (c := .int .i64 0) (by go_simp) (by go_simp) (by go_simp) (fun i => .int .i64 (aW i)) rfl rfl rfl) (fun i _ => by unfold aW; split <;> (try split) <;> omega)).mono ?_
  rintro e w2 ⟨⟨g2, rfl, hg2, hr2⟩, hb2⟩
  have R2 := Lib.hid ((rd_row hr2).congr (g := fun i => .int .i64 (aZ i)) (fun i hi => by rw [awake_fold i hi]))
  have hb12 : Below w1.heap.size w1 w2 := (((Below.refl _ _).alloc (Nat.le_refl _) _).alloc (by simp) _).trans (hb2.mono (by simp; omega))
  have R12 := Lib.hid (R1.out.below hb12)
  have B2 := Lib.hid (B1.out.trans (hb12.mono hl1))
  have hl2 : w.heap.size ≤ w2.heap.size := B2.out.size
  clear hr2 hb2 hb12 hg2 R1
  go_wp2_with fail
  refine (Prime_any _).mono ?_
  rintro e w' ⟨rfl, rfl⟩
  go_wp2_with fail
  refine (same_words (n := 2) (X := aX) ?_ ?_ (by decide)).mono ?_
  · exact Rd.congr (Rd.below R12.out (by repeat (first | exact Below.refl _ _ | refine below_drewN ?_ _ | refine Below.alloc ?_ (by first | (simp; done) | (simp; omega)) _))) (fun i hi => by rw [← awake_line i hi])
  · exact ⟨_, _, rfl, fun _ => ⟨_, 0, rfl, by simp, two_cells (a := .int .u64 3) (b := .int .u64 18446744069414584320) (by go_simp) (by go_simp) (fun i => wn (aX i)) rfl rfl⟩⟩
  rintro e w' ⟨rfl, k, rfl⟩
  have c0 : (w2.alloc (.cells #[.int .i64 3, .int .i64 1, .int .i64 1, .slice (some ⟨g2, 0, none⟩) 3 3] 26)).cell? ⟨w2.heap.size, 0, none⟩ = some (.int .i64 3) := by go_simp
  go_wp2_with fail
  refine (same_counts (n := 3) (V := aZ) ?_ ?_ (by decide)).mono ?_
  · exact Rd.below R2.out (by repeat (first | exact Below.refl _ _ | refine below_drewN ?_ _ | refine Below.alloc ?_ (by first | (simp; done) | (simp; omega)) _))
  · exact ⟨_, _, rfl, fun _ => ⟨_, 0, rfl, by simp, three_cells (a := .int .i64 3) (b := .int .i64 10) (c := .int .i64 8) (by go_simp) (by go_simp) (by go_simp) (fun i => .int .i64 (aZ i)) rfl rfl rfl⟩⟩
  rintro e w3 ⟨rfl, hb3⟩
  go_wp2
  go_ret
  exact ⟨rfl, B2.out.trans (Below.trans (by repeat (first | exact Below.refl _ _ | refine below_drewN ?_ _ | refine Below.alloc ?_ (by first | (simp; done) | (simp; omega)) _)) (hb3.mono (by first | (simp; done) | (simp; omega) | omega)) |>.mono hl2)⟩

end Go.Proofs.Ytjmhnmlmnlefaaa
