/-
  Equality of metrics and of matrices.
-/
import Derived.Test.YtdhlkhockpblhaaBase
namespace Go.Proofs.Ytdhlkhockpblhaa
open Go.RowKit
attribute [local irreducible] World.setCell

set_option linter.unusedSimpArgs false
set_option linter.unusedVariables false


theorem some_of_isSome {α : Type} {o : Option α} (h : o.isSome = true) : ∃ i, o = some i := Option.isSome_iff_exists.1 h
@[go_sem] theorem eqRow (d : Nat) (a0 a1 a2 b0 b1 b2 : Int) (w : World) :
    (Op.equalIn (d + 2) 24 (.agg #[.int .i64 a0, .int .i64 a1, .int .i64 a2]) (.agg #[.int .i64 b0, .int .i64 b1, .int .i64 b2])).run Try.prog w = .ok (a0 == b0 && (a1 == b1 && a2 == b2)) w := by
  obtain ⟨i, hi⟩ := some_of_isSome (o := Try.prog.info? 3) (by kernel_rfl)
  have und : Try.prog.underlying 24 = some (.array 3 3) := by kernel_rfl
  have c3 : Try.prog.cellsOf 3 = 1 := by kernel_rfl
  rw [run_equalIn_array w (d + 1) _ _ und hi, c3]
  have p0 : ∀ (x y z : Value) (w : World), (part 3 #[x, y, z] 0).run Try.prog w = .ok x w := fun _ _ _ _ => by kernel_rfl
  have p1 : ∀ (x y z : Value) (w : World), (part 3 #[x, y, z] 1).run Try.prog w = .ok y w := fun _ _ _ _ => by kernel_rfl
  have p2 : ∀ (x y z : Value) (w : World), (part 3 #[x, y, z] 2).run Try.prog w = .ok z w := fun _ _ _ _ => by kernel_rfl
  simp [List.range_succ, Op.eqItems, p0, p1, p2, run_equalIn_int (h := Try.underlying3)]
  by_cases h0 : a0 = b0 <;> by_cases h1 : a1 = b1 <;> by_cases h2 : a2 = b2 <;> simp [h0, h1, h2]
@[go_sem] theorem eqMat (d : Nat) (a0 a1 a2 a3 a4 a5 a6 a7 a8 b0 b1 b2 b3 b4 b5 b6 b7 b8 : Int) (w : World) :
    (Op.equalIn (d + 3) 26 (.agg #[.int .i64 a0, .int .i64 a1, .int .i64 a2, .int .i64 a3, .int .i64 a4, .int .i64 a5, .int .i64 a6, .int .i64 a7, .int .i64 a8]) (.agg #[.int .i64 b0, .int .i64 b1, .int .i64 b2, .int .i64 b3, .int .i64 b4, .int .i64 b5, .int .i64 b6, .int .i64 b7, .int .i64 b8])).run Try.prog w = .ok ((a0 == b0 && (a1 == b1 && a2 == b2)) && ((a3 == b3 && (a4 == b4 && a5 == b5)) && (a6 == b6 && (a7 == b7 && a8 == b8)))) w := by
  obtain ⟨i, hi⟩ := some_of_isSome (o := Try.prog.info? 24) (by kernel_rfl)
  have und : Try.prog.underlying 26 = some (.array 3 24) := by kernel_rfl
  have c3 : Try.prog.cellsOf 24 = 3 := by kernel_rfl
  rw [run_equalIn_array w (d + 2) _ _ und hi, c3]
  have p0 : ∀ (a0 a1 a2 a3 a4 a5 a6 a7 a8 : Value) (w : World), (part 24 #[a0, a1, a2, a3, a4, a5, a6, a7, a8] 0).run Try.prog w = .ok (.agg #[a0, a1, a2]) w := fun _ _ _ _ _ _ _ _ _ _ => by kernel_rfl
  have p1 : ∀ (a0 a1 a2 a3 a4 a5 a6 a7 a8 : Value) (w : World), (part 24 #[a0, a1, a2, a3, a4, a5, a6, a7, a8] 3).run Try.prog w = .ok (.agg #[a3, a4, a5]) w := fun _ _ _ _ _ _ _ _ _ _ => by kernel_rfl
  have p2 : ∀ (a0 a1 a2 a3 a4 a5 a6 a7 a8 : Value) (w : World), (part 24 #[a0, a1, a2, a3, a4, a5, a6, a7, a8] 6).run Try.prog w = .ok (.agg #[a6, a7, a8]) w := fun _ _ _ _ _ _ _ _ _ _ => by kernel_rfl
  have r0 := fun w => eqRow d a0 a1 a2 b0 b1 b2 w
  have r1 := fun w => eqRow d a3 a4 a5 b3 b4 b5 w
  have r2 := fun w => eqRow d a6 a7 a8 b6 b7 b8 w
  generalize (a0 == b0 && (a1 == b1 && a2 == b2)) = x at r0 ⊢
  generalize (a3 == b3 && (a4 == b4 && a5 == b5)) = y at r1 ⊢
  generalize (a6 == b6 && (a7 == b7 && a8 == b8)) = z at r2 ⊢
  simp [List.range_succ, Op.eqItems, p0, p1, p2, r0, r1, r2]
  cases x <;> cases y <;> cases z <;> rfl
@[go_sem] theorem eqMet (d : Nat) (a0 a1 a2 a3 a4 a5 b0 b1 b2 b3 b4 b5 : Int) (w : World) :
    (Op.equalIn (d + 2) 23 (.agg #[.int .i64 a0, .int .i64 a1, .int .i64 a2, .int .i64 a3, .int .i64 a4, .int .i64 a5]) (.agg #[.int .i64 b0, .int .i64 b1, .int .i64 b2, .int .i64 b3, .int .i64 b4, .int .i64 b5])).run Try.prog w = .ok (a0 == b0 && (a1 == b1 && (a2 == b2 && (a3 == b3 && (a4 == b4 && (a5 == b5)))))) w := by
  have hl : (Try.prog.fieldsOf 23).toList.map (fun f => (f.name == "_", f.type, f.offset)) = [(false, 3, 0), (false, 3, 1), (false, 3, 2), (false, 3, 3), (false, 3, 4), (false, 3, 5)] := by kernel_rfl
  rw [run_equalIn_agg w (d + 1) 23 _ _ (by kernel_rfl) (by kernel_rfl)]
  rcases hL : (Try.prog.fieldsOf 23).toList with _ | ⟨f1, _ | ⟨f2, _ | ⟨f3, _ | ⟨f4, _ | ⟨f5, _ | ⟨f6, _ | ⟨f7, l⟩⟩⟩⟩⟩⟩⟩ <;> rw [hL] at hl <;> simp at hl
  obtain ⟨⟨g1, t1, o1⟩, ⟨g2, t2, o2⟩, ⟨g3, t3, o3⟩, ⟨g4, t4, o4⟩, ⟨g5, t5, o5⟩, g6, t6, o6⟩ := hl
  have p0 : ∀ (c0 c1 c2 c3 c4 c5 : Value) (w : World), (part 3 #[c0, c1, c2, c3, c4, c5] 0).run Try.prog w = .ok c0 w := fun _ _ _ _ _ _ _ => by kernel_rfl
  have p1 : ∀ (c0 c1 c2 c3 c4 c5 : Value) (w : World), (part 3 #[c0, c1, c2, c3, c4, c5] 1).run Try.prog w = .ok c1 w := fun _ _ _ _ _ _ _ => by kernel_rfl
  have p2 : ∀ (c0 c1 c2 c3 c4 c5 : Value) (w : World), (part 3 #[c0, c1, c2, c3, c4, c5] 2).run Try.prog w = .ok c2 w := fun _ _ _ _ _ _ _ => by kernel_rfl
  have p3 : ∀ (c0 c1 c2 c3 c4 c5 : Value) (w : World), (part 3 #[c0, c1, c2, c3, c4, c5] 3).run Try.prog w = .ok c3 w := fun _ _ _ _ _ _ _ => by kernel_rfl
  have p4 : ∀ (c0 c1 c2 c3 c4 c5 : Value) (w : World), (part 3 #[c0, c1, c2, c3, c4, c5] 4).run Try.prog w = .ok c4 w := fun _ _ _ _ _ _ _ => by kernel_rfl
  have p5 : ∀ (c0 c1 c2 c3 c4 c5 : Value) (w : World), (part 3 #[c0, c1, c2, c3, c4, c5] 5).run Try.prog w = .ok c5 w := fun _ _ _ _ _ _ _ => by kernel_rfl
  simp [Op.eqFields, g1, g2, g3, g4, g5, g6, t1, t2, t3, t4, t5, t6, o1, o2, o3, o4, o5, o6, p0, p1, p2, p3, p4, p5, run_equalIn_int (h := Try.underlying3)]
  by_cases h0 : a0 = b0 <;> by_cases h1 : a1 = b1 <;> by_cases h2 : a2 = b2 <;> by_cases h3 : a3 = b3 <;> by_cases h4 : a4 = b4 <;> by_cases h5 : a5 = b5 <;> simp [h0, h1, h2, h3, h4, h5]

end Go.Proofs.Ytdhlkhockpblhaa
