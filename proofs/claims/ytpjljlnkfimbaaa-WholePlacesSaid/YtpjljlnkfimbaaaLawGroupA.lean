/-
  A sum that grows: what holds of memory.
-/
import Derived.Test.YtpjljlnkfimbaaaFracI
namespace Go.Proofs.Ytpjljlnkfimbaaa
open Go.RowKit
attribute [local irreducible] World.setCell

theorem g_comm (a b : Int) : ((a + b) % 24 == (b + a) % 24) = true := by rw [Int.add_comm]; simp
theorem g_assoc (a b c : Int) : ((a + b + c) % 24 == (a + (b + c)) % 24) = true := by rw [Int.add_assoc]; simp
theorem g_neg (a : Int) : ((a + -a) % 24 == 0) = true := by rw [Int.add_right_neg]; rfl
theorem g_timesneg (k a : Int) : (-k * a % 24 == -(k * a % 24) % 24) = true := by rw [Int.neg_mul]; simp; omega
theorem g_subneg (a b : Int) : ((a - b) % 24 == (a + -b) % 24) = true := by rw [Int.sub_eq_add_neg]; simp

/-- What holds of memory while the sum grows: block B holds k times a. -/
structure SumInv (w : World) (S B : Nat) (a0 a1 a2 s0 s1 s2 : Int) (k : Nat) (wr : World) : Prop where
  below : Below w.heap.size w wr
  za : w.heap.size < wr.heap.size
  zs : S < wr.heap.size
  zb : B < wr.heap.size
  old : w.heap.size < B
  neS : S ≠ B
  ca0 : wr.cell? ⟨w.heap.size, 0, none⟩ = some (.int .i64 a0)
  ca1 : wr.cell? ⟨w.heap.size, 1, none⟩ = some (.int .i64 a1)
  ca2 : wr.cell? ⟨w.heap.size, 2, none⟩ = some (.int .i64 a2)
  cs0 : wr.cell? ⟨S, 0, none⟩ = some (.int .i64 s0)
  cs1 : wr.cell? ⟨S, 1, none⟩ = some (.int .i64 s1)
  cs2 : wr.cell? ⟨S, 2, none⟩ = some (.int .i64 s2)
  cb0 : wr.cell? ⟨B, 0, none⟩ = some (.int .i64 ((k * a0) % 24))
  cb1 : wr.cell? ⟨B, 1, none⟩ = some (.int .i64 ((k * a1) % 24))
  cb2 : wr.cell? ⟨B, 2, none⟩ = some (.int .i64 ((k * a2) % 24))
  fb : ∀ o, wr.frozen? ⟨B, o, none⟩ = false
theorem mul_succ_mod (k a : Int) : ((k * a) % 24 + a) % 24 = ((k + 1) * a) % 24 := by
  rw [Int.emod_add_emod, Int.add_mul, Int.one_mul]
theorem SumInv.step {w wr wa : World} {S B : Nat} {a0 a1 a2 s0 s1 s2 : Int} {k : Nat} (h : SumInv w S B a0 a1 a2 s0 s1 s2 k wr) (hb : Below wr.heap.size wr wa) {v0 v1 v2 : Int}
    (e0 : v0 = ((k * a0) % 24 + a0) % 24) (e1 : v1 = ((k * a1) % 24 + a1) % 24) (e2 : v2 = ((k * a2) % 24 + a2) % 24) :
    SumInv w S B a0 a1 a2 s0 s1 s2 (k + 1) (((wa.setCell ⟨B, 0, none⟩ (.int .i64 v0)).setCell ⟨B, 1, none⟩ (.int .i64 v1)).setCell ⟨B, 2, none⟩ (.int .i64 v2)) := by
  have hz := hb.size
  have hs := h.za; have hss := h.zs; have hsb := h.zb; have ho := h.old; have hne := h.neS
  have c := fun (b o : Nat) (q : b < wr.heap.size) => hb.cell (p := ⟨b, o, none⟩) q
  have hwb : w.heap.size ≠ B := by omega
  have hww : ¬ (B = w.heap.size) := by omega
  have hnS : ¬ (B = S) := fun e => hne e.symm
  have b0 := c B 0 hsb; have b1 := c B 1 hsb; have b2 := c B 2 hsb
  rw [h.cb0] at b0; rw [h.cb1] at b1; rw [h.cb2] at b2
  have n1 : (((k + 1 : Nat) : Int)) = (k : Int) + 1 := by omega
  refine ⟨((((h.below.trans (hb.mono (by omega))).setCell (by show w.heap.size ≤ B; omega) _).setCell (by show w.heap.size ≤ B; omega) _).setCell (by show w.heap.size ≤ B; omega) _), by simp; omega, by simp; omega, by simp; omega, ho, hne, ?_, ?_, ?_, ?_, ?_, ?_, ?_, ?_, ?_, ?_⟩
  · simp only [cell?_setCell_if, hww, hnS, false_and, if_false]; exact (c _ _ hs).trans h.ca0
  · simp only [cell?_setCell_if, hww, hnS, false_and, if_false]; exact (c _ _ hs).trans h.ca1
  · simp only [cell?_setCell_if, hww, hnS, false_and, if_false]; exact (c _ _ hs).trans h.ca2
  · simp only [cell?_setCell_if, hww, hnS, false_and, if_false]; exact (c _ _ hss).trans h.cs0
  · simp only [cell?_setCell_if, hww, hnS, false_and, if_false]; exact (c _ _ hss).trans h.cs1
  · simp only [cell?_setCell_if, hww, hnS, false_and, if_false]; exact (c _ _ hss).trans h.cs2
  · simp [cell?_setCell_if, b0, e0]; rw [Int.add_mul, Int.one_mul]
  · simp [cell?_setCell_if, b1, e1]; rw [Int.add_mul, Int.one_mul]
  · simp [cell?_setCell_if, b2, e2]; rw [Int.add_mul, Int.one_mul]
  · intro o; simp only [World.frozen?_setCell]; rw [hb.frozen (p := ⟨B, o, none⟩) hsb]; exact h.fb o

end Go.Proofs.Ytpjljlnkfimbaaa
