/-
  Small functions of the law WholePlaces: among, parts; the sum that grows.
-/
import Derived.Test.YtpjljlnkfimbaaaLawTotalB
import Derived.Test.YtpjljlnkfimbaaaLawGroupA
import Derived.Deep.RegionHeld3
namespace Go.Proofs.Ytpjljlnkfimbaaa
open Go.RowKit
attribute [local irreducible] World.setCell

theorem keep_alloc {w : World} {a : Addr} {o : Obj} {v : Value} (h : w.cell? a = some v) : (w.alloc o).cell? a = some v := (World.cell?_alloc_some w a o (by rw [h]; rfl)).trans h
theorem keep_set {w : World} {p a : Addr} {u v : Value} (h : w.cell? a = some v) (hn : p.block ≠ a.block) : (w.setCell p u).cell? a = some v := (World.cell?_setCell_far w p a u hn).trans h

set_option maxHeartbeats 400000 in
theorem among_any (n m : Int) (w : World) (h : 0 < m) (h2 : m ≤ 192):
    Calls Try.prog 33 #[.int .i64 n, .int .i64 m] w fun e w' => e = .returned (.int .i64 (n % m)) ∧ w = w' := by
  have hb := tmod_bounds n m h
  have he := tmod_emod n m h
  have hm : m ≠ 0 := by omega
  by_cases hn : n.tmod m < 0
  · have e2 : n.tmod m + m = n % m := by rw [← he]; rw [← Int.add_emod_right]; exact (Int.emod_eq_of_lt (by omega) (by omega)).symm
    have H := Lib.hid e2
    clear he e2
    go_enter Try.func33, Try.ntmps33
    go_wp2
    go_ret
    exact ⟨ret_int H.out, rfl⟩
  · have e2 : n.tmod m = n % m := by rw [← he]; exact (Int.emod_eq_of_lt (by omega) (by omega)).symm
    have H := Lib.hid e2
    clear he e2
    go_enter Try.func33, Try.ntmps33
    go_wp2
    go_ret
    exact ⟨ret_int H.out, rfl⟩

def partsC (k : Int) : Int := if k % 4 = 0 then 24 else if k % 4 = 1 then 48 else if k % 4 = 2 then 96 else 192
theorem parts_right (k : Int) : rightB (partsC k) = true := by
  unfold partsC; (repeat' split) <;> rfl

set_option maxHeartbeats 400000 in
theorem parts_any (k : Int) (w : World) (h : 0 ≤ k) (h2 : k ≤ 255):
    Calls Try.prog 34 #[.int .u8 k] w fun e w' => e = .returned (.int .i64 (partsC k)) ∧ w = w' := by
  have c : k % 4 = 0 ∨ k % 4 = 1 ∨ k % 4 = 2 ∨ k % 4 = 3 := by omega
  rcases c with c | c | c | c
  all_goals
    go_enter Try.func34, Try.ntmps34
    go_wp2
    go_ret
    exact ⟨ret_int (by unfold partsC; simp [c]), rfl⟩

theorem w_neg (a : Int) : ((a + -(a % 24)) % 24 == 0) = true := by simp; omega
theorem w_times (n a : Int) : (n * a % 24 == n % 24 * a % 24) = true := by simp [Int.mul_emod]
theorem w_back {m : Int} (h : rightB m = true) (x b : Int) (h0 : 0 ≤ x) (h1 : x < m) : ((x + b * (m / 24)) % m + ((-b) % 24) * (m / 24)) % m = x := by
  rcases (rightB_iff m).1 h with rfl | rfl | rfl | rfl <;> omega
theorem w_moved {m : Int} (h : rightB m = true) (x b : Int) : ((x + b * (m / 24)) % m - x) % m = (0 + b * (m / 24)) % m := by
  rcases (rightB_iff m).1 h with rfl | rfl | rfl | rfl <;> omega
/-- What holds of memory while the sum grows: block B holds k times a; below B nothing has turned. -/
structure Sum2 (W0 : World) (B : Nat) (a0 a1 a2 : Int) (k : Nat) (wr : World) : Prop where
  below : Below B W0 wr
  zb : B < wr.heap.size
  cb0 : wr.cell? ⟨B, 0, none⟩ = some (.int .i64 ((k * a0) % 24))
  cb1 : wr.cell? ⟨B, 1, none⟩ = some (.int .i64 ((k * a1) % 24))
  cb2 : wr.cell? ⟨B, 2, none⟩ = some (.int .i64 ((k * a2) % 24))
  fb : ∀ o, wr.frozen? ⟨B, o, none⟩ = false
theorem Sum2.step {W0 wr wa : World} {B : Nat} {a0 a1 a2 : Int} {k : Nat} (h : Sum2 W0 B a0 a1 a2 k wr) (hb : Below wr.heap.size wr wa) {v0 v1 v2 : Int}
    (e0 : v0 = ((k * a0) % 24 + a0) % 24) (e1 : v1 = ((k * a1) % 24 + a1) % 24) (e2 : v2 = ((k * a2) % 24 + a2) % 24) :
    Sum2 W0 B a0 a1 a2 (k + 1) (((wa.setCell ⟨B, 0, none⟩ (.int .i64 v0)).setCell ⟨B, 1, none⟩ (.int .i64 v1)).setCell ⟨B, 2, none⟩ (.int .i64 v2)) := by
  have hz := hb.size
  have hsb := h.zb
  have c := fun (b o : Nat) (q : b < wr.heap.size) => hb.cell (p := ⟨b, o, none⟩) q
  have b0 := c B 0 hsb; have b1 := c B 1 hsb; have b2 := c B 2 hsb
  rw [h.cb0] at b0; rw [h.cb1] at b1; rw [h.cb2] at b2
  refine ⟨((((h.below.trans (hb.mono (by omega))).setCell (Nat.le_refl B) _).setCell (Nat.le_refl B) _).setCell (Nat.le_refl B) _), by simp; omega, ?_, ?_, ?_, ?_⟩
  · simp [cell?_setCell_if, b0, e0]; rw [Int.add_mul, Int.one_mul]
  · simp [cell?_setCell_if, b1, e1]; rw [Int.add_mul, Int.one_mul]
  · simp [cell?_setCell_if, b2, e2]; rw [Int.add_mul, Int.one_mul]
  · intro o; simp only [World.frozen?_setCell]; rw [hb.frozen (p := ⟨B, o, none⟩) hsb]; exact h.fb o
theorem bcell2 {B : Nat} {W w1 : World} (hb : Below B W w1) : (∀ b o, b < B → w1.cell? ⟨b, o, none⟩ = W.cell? ⟨b, o, none⟩) ∧ (∀ b o, b < B → w1.frozen? ⟨b, o, none⟩ = W.frozen? ⟨b, o, none⟩) :=
  ⟨fun b o h => hb.cell (p := ⟨b, o, none⟩) h, fun b o h => hb.frozen (p := ⟨b, o, none⟩) h⟩

end Go.Proofs.Ytpjljlnkfimbaaa
