/-
  Numbers modulo 2^64; small laws of walks.
-/
import Derived.Test.YtdhlkhockpblhaaBase
import Derived.StillTail
import Derived.Deep.RegionHeld3
namespace Go.Proofs.Ytdhlkhockpblhaa.M
open Go.RowKit
attribute [local irreducible] World.setCell

set_option linter.unusedSimpArgs false
set_option linter.unusedVariables false

theorem wrap_add_l (x y : Int) : wrap64 (wrap64 x + y) = wrap64 (x + y) := by unfold wrap64; omega
theorem wrap_add_r (x y : Int) : wrap64 (x + wrap64 y) = wrap64 (x + y) := by unfold wrap64; omega
theorem wrap_sub_l (x y : Int) : wrap64 (wrap64 x - y) = wrap64 (x - y) := by unfold wrap64; omega
theorem wrap_sub_r (x y : Int) : wrap64 (x - wrap64 y) = wrap64 (x - y) := by unfold wrap64; omega
theorem wrap_neg (x : Int) : wrap64 (-wrap64 x) = wrap64 (-x) := by unfold wrap64; omega
theorem wrap_wrap (x : Int) : wrap64 (wrap64 x) = wrap64 x := by unfold wrap64; omega
theorem wrap_mod (x : Int) : ∃ k : Int, wrap64 x = x + 18446744073709551616 * k := ⟨-((x + 9223372036854775808) / 18446744073709551616), by unfold wrap64; omega⟩
theorem wrap_shift (x k : Int) : wrap64 (x + 18446744073709551616 * k) = wrap64 x := by unfold wrap64; omega
theorem wrap_mul_l (x y : Int) : wrap64 (wrap64 x * y) = wrap64 (x * y) := by
  obtain ⟨k, h⟩ := wrap_mod x
  rw [h, show (x + 18446744073709551616 * k) * y = x * y + 18446744073709551616 * (k * y) by grind, wrap_shift]
theorem wrap_mul_r (x y : Int) : wrap64 (x * wrap64 y) = wrap64 (x * y) := by rw [Int.mul_comm, wrap_mul_l, Int.mul_comm]

theorem ret_mat {a00 a01 a02 a10 a11 a12 a20 a21 a22 b00 b01 b02 b10 b11 b12 b20 b21 b22 : Int} (h00 : a00 = b00) (h01 : a01 = b01) (h02 : a02 = b02) (h10 : a10 = b10) (h11 : a11 = b11) (h12 : a12 = b12) (h20 : a20 = b20) (h21 : a21 = b21) (h22 : a22 = b22) : Ending.returned (.agg #[.int .i64 a00, .int .i64 a01, .int .i64 a02, .int .i64 a10, .int .i64 a11, .int .i64 a12, .int .i64 a20, .int .i64 a21, .int .i64 a22]) = .returned (.agg #[.int .i64 b00, .int .i64 b01, .int .i64 b02, .int .i64 b10, .int .i64 b11, .int .i64 b12, .int .i64 b20, .int .i64 b21, .int .i64 b22]) := by rw [h00, h01, h02, h10, h11, h12, h20, h21, h22]
theorem region_headq {P : Program} {id : Nat} {Q : Exit → Act → World → Prop} {a : Act} {W : World} {l : List Oper} (n : Nat) (hm : P.follows .mixedOrders = true) (hB : Region.lexTailB .any l.toArray n = true)
    (h : wpQuiet P l.toArray (fun w' => ∃ k, w' = W.drewN k) (fun a' => ∀ w', (∃ k, w' = W.drewN k) → wpList P l.toArray Q (l.drop n) a' w') (l.take n) a) : (Code.region id l.toArray true).wp P Q a W :=
  wp_region_quiet_tail (C := fun w' => ∃ k, w' = W.drewN k) n hm hB ⟨1, rfl⟩ h

@[go_sem] theorem BelowW.cellB {B : Nat} {W : World} (x : BelowW B W) (b o : Nat) (h : b < B) : World.cell? x.1 ⟨b, o, none⟩ = W.cell? ⟨b, o, none⟩ := x.2.cell (p := ⟨b, o, none⟩) h
@[go_sem] theorem BelowW.frozenB {B : Nat} {W : World} (x : BelowW B W) (b o : Nat) (h : b < B) : World.frozen? x.1 ⟨b, o, none⟩ = W.frozen? ⟨b, o, none⟩ := x.2.frozen (p := ⟨b, o, none⟩) h
theorem BelowW.ltB {B : Nat} {W : World} (x : BelowW B W) (hB : B ≤ W.heap.size) (b : Nat) (h : b < B) : b < (World.heap x.1).size := Nat.lt_of_lt_of_le h (Nat.le_trans hB x.2.size)
theorem to_v {P : Program} {f : FuncId} {args : Array Value} {w : World} {Q : World → Prop} {v v' : Value} (h : v = v') (c : Calls P f args w fun e w' => e = .returned v ∧ Q w') :
    Calls P f args w fun e w' => e = .returned v' ∧ Q w' := h ▸ c
theorem wrap3 (x y z a b c : Int) : wrap64 (wrap64 x * a + wrap64 y * b + wrap64 z * c) = wrap64 (x * a + y * b + z * c) := by
  obtain ⟨i, hi⟩ := wrap_mod x; obtain ⟨j, hj⟩ := wrap_mod y; obtain ⟨k, hk⟩ := wrap_mod z
  rw [hi, hj, hk, show (x + 18446744073709551616 * i) * a + (y + 18446744073709551616 * j) * b + (z + 18446744073709551616 * k) * c = x * a + y * b + z * c + 18446744073709551616 * (i * a + j * b + k * c) by grind, wrap_shift]

theorem keep_alloc {w : World} {a : Addr} {o : Obj} {v : Value} (h : w.cell? a = some v) : (w.alloc o).cell? a = some v := (World.cell?_alloc_some w a o (by rw [h]; rfl)).trans h
theorem keep_set {w : World} {p a : Addr} {u v : Value} (h : w.cell? a = some v) (hn : p.block ≠ a.block) : (w.setCell p u).cell? a = some v := (World.cell?_setCell_far w p a u hn).trans h

theorem mulb {x y : Int} (a b : Nat) (hx : -(a : Int) ≤ x ∧ x ≤ a) (hy : -(b : Int) ≤ y ∧ y ≤ b) : -((a * b : Nat) : Int) ≤ x * y ∧ x * y ≤ ((a * b : Nat) : Int) := by
  have h : (x * y).natAbs ≤ a * b := by rw [Int.natAbs_mul]; exact Nat.mul_le_mul (by omega) (by omega)
  omega

theorem some_of_isSome {α : Type} {o : Option α} (h : o.isSome = true) : ∃ i, o = some i := Option.isSome_iff_exists.1 h
@[go_sem] theorem eqRow (d : Nat) (a0 a1 a2 b0 b1 b2 : Int) (w : World) :
    (Op.equalIn (d + 2) 24 (.agg #[.int .i64 a0, .int .i64 a1, .int .i64 a2]) (.agg #[.int .i64 b0, .int .i64 b1, .int .i64 b2])).run Try.prog w = .ok (a0 == b0 && (a1 == b1 && a2 == b2)) w := by
  obtain ⟨i, hi⟩ := some_of_isSome (o := Try.prog.info? 3) (by kernel_rfl)
  have und : Try.prog.underlying 24 = some (.array 3 3) := by kernel_rfl
  have c3 : Try.prog.cellsOf 3 = 1 := by kernel_rfl
  rw [run_equalIn_array w (d + 1) _ _ und hi, c3]
  have p0 : ∀ (x y z : Value) (w : World), (part 3 #[x, y, z] 0).run Try.prog w = .ok x w := fun _ _ _ _ => by kernel_rfl
  have p1 : ∀ (x y z : Value) (w : World), (part 3 #[x, y, z] 1).run Try.prog w = .ok y w := fun _ _ _ _ => by kernel_rfl
  have p2 : ∀ (x y z : Value) (w : World), (part 3 #[x, y, z] 2).run Try.prog w = .ok z w := fun _ _ _ _ => by kernel_rfl
  simp [List.range_succ, Op.eqItems, p0, p1, p2, run_equalIn_int (h := Try.underlying3)]
  by_cases h0 : a0 = b0 <;> by_cases h1 : a1 = b1 <;> by_cases h2 : a2 = b2 <;> simp [h0, h1, h2]
@[go_sem] theorem eqMat (d : Nat) (a0 a1 a2 a3 a4 a5 a6 a7 a8 b0 b1 b2 b3 b4 b5 b6 b7 b8 : Int) (w : World) :
    (Op.equalIn (d + 3) 26 (.agg #[.int .i64 a0, .int .i64 a1, .int .i64 a2, .int .i64 a3, .int .i64 a4, .int .i64 a5, .int .i64 a6, .int .i64 a7, .int .i64 a8]) (.agg #[.int .i64 b0, .int .i64 b1, .int .i64 b2, .int .i64 b3, .int .i64 b4, .int .i64 b5, .int .i64 b6, .int .i64 b7, .int .i64 b8])).run Try.prog w = .ok ((a0 == b0 && (a1 == b1 && a2 == b2)) && ((a3 == b3 && (a4 == b4 && a5 == b5)) && (a6 == b6 && (a7 == b7 && a8 == b8)))) w := by
  obtain ⟨i, hi⟩ := some_of_isSome (o := Try.prog.info? 24) (by kernel_rfl)
  have und : Try.prog.underlying 26 = some (.array 3 24) := by kernel_rfl
  have c3 : Try.prog.cellsOf 24 = 3 := by kernel_rfl
  rw [run_equalIn_array w (d + 2) _ _ und hi, c3]
  have p0 : ∀ (a0 a1 a2 a3 a4 a5 a6 a7 a8 : Value) (w : World), (part 24 #[a0, a1, a2, a3, a4, a5, a6, a7, a8] 0).run Try.prog w = .ok (.agg #[a0, a1, a2]) w := fun _ _ _ _ _ _ _ _ _ _ => by kernel_rfl
  have p1 : ∀ (a0 a1 a2 a3 a4 a5 a6 a7 a8 : Value) (w : World), (part 24 #[a0, a1, a2, a3, a4, a5, a6, a7, a8] 3).run Try.prog w = .ok (.agg #[a3, a4, a5]) w := fun _ _ _ _ _ _ _ _ _ _ => by kernel_rfl
  have p2 : ∀ (a0 a1 a2 a3 a4 a5 a6 a7 a8 : Value) (w : World), (part 24 #[a0, a1, a2, a3, a4, a5, a6, a7, a8] 6).run Try.prog w = .ok (.agg #[a6, a7, a8]) w := fun _ _ _ _ _ _ _ _ _ _ => by kernel_rfl
  have r0 := fun w => eqRow d a0 a1 a2 b0 b1 b2 w
  have r1 := fun w => eqRow d a3 a4 a5 b3 b4 b5 w
  have r2 := fun w => eqRow d a6 a7 a8 b6 b7 b8 w
  generalize (a0 == b0 && (a1 == b1 && a2 == b2)) = x at r0 ⊢
  generalize (a3 == b3 && (a4 == b4 && a5 == b5)) = y at r1 ⊢
  generalize (a6 == b6 && (a7 == b7 && a8 == b8)) = z at r2 ⊢
  simp [List.range_succ, Op.eqItems, p0, p1, p2, r0, r1, r2]
  cases x <;> cases y <;> cases z <;> rfl

@[go_sem] theorem eqVec (d : Nat) (a0 a1 a2 b0 b1 b2 : Int) (w : World) :
    (Op.equalIn (d + 2) 48 (.agg #[.int .i64 a0, .int .i64 a1, .int .i64 a2]) (.agg #[.int .i64 b0, .int .i64 b1, .int .i64 b2])).run Try.prog w = .ok (a0 == b0 && (a1 == b1 && a2 == b2)) w := by
  obtain ⟨i, hi⟩ := some_of_isSome (o := Try.prog.info? 3) (by kernel_rfl)
  have und : Try.prog.underlying 48 = some (.array 3 3) := by kernel_rfl
  have c3 : Try.prog.cellsOf 3 = 1 := by kernel_rfl
  rw [run_equalIn_array w (d + 1) _ _ und hi, c3]
  have p0 : ∀ (x y z : Value) (w : World), (part 3 #[x, y, z] 0).run Try.prog w = .ok x w := fun _ _ _ _ => by kernel_rfl
  have p1 : ∀ (x y z : Value) (w : World), (part 3 #[x, y, z] 1).run Try.prog w = .ok y w := fun _ _ _ _ => by kernel_rfl
  have p2 : ∀ (x y z : Value) (w : World), (part 3 #[x, y, z] 2).run Try.prog w = .ok z w := fun _ _ _ _ => by kernel_rfl
  simp [List.range_succ, Op.eqItems, p0, p1, p2, run_equalIn_int (h := Try.underlying3)]
  by_cases h0 : a0 = b0 <;> by_cases h1 : a1 = b1 <;> by_cases h2 : a2 = b2 <;> simp [h0, h1, h2]

end Go.Proofs.Ytdhlkhockpblhaa.M
