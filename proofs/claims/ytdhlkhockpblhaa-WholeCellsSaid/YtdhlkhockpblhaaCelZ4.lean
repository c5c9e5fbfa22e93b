/-
  Rows of cells that a world holds; equality of ratios and of vectors.
-/
import Derived.Test.YtdhlkhockpblhaaRedE1
import Derived.Test.YtdhlkhockpblhaaCelV
namespace Go.Proofs.Ytdhlkhockpblhaa
open Go.RowKit
attribute [local irreducible] World.setCell

set_option linter.unusedSimpArgs false
set_option linter.unusedVariables false

/-- The block b begins with the values l. -/
structure At (b : Nat) (l : List Value) (w : World) : Prop where
  lt : b < w.heap.size
  all : ∀ i, i < l.length → w.cell? ⟨b, i, none⟩ = l[i]?
/-- Rows that a world holds. -/
structure Rs (l : List (Nat × List Value)) (w : World) : Prop where
  all : ∀ r, r ∈ l → At r.1 r.2 w
theorem At.cell {b : Nat} {l : List Value} {w : World} (h : At b l w) (i : Nat) {v : Value} (hv : l[i]? = some v) : w.cell? ⟨b, i, none⟩ = some v :=
  (h.all i (List.getElem?_eq_some_iff.1 hv).1).trans hv
theorem At.step {b : Nat} {l : List Value} {X Y : World} (h : At b l X) (hb : Below X.heap.size X Y) : At b l Y :=
  ⟨Nat.lt_of_lt_of_le h.lt hb.size, fun i hi => (hb.cell (p := ⟨b, i, none⟩) h.lt).trans (h.all i hi)⟩
theorem Rs.nil (w : World) : Rs [] w := ⟨fun r h => absurd h List.not_mem_nil⟩
theorem Rs.cons {w : World} {b : Nat} {vs : List Value} {l : List (Nat × List Value)} (h : At b vs w) (hl : Rs l w) : Rs ((b, vs) :: l) w :=
  ⟨fun r hr => by
    rcases List.mem_cons.1 hr with rfl | hr
    · exact h
    · exact hl.all r hr⟩
theorem Rs.step {l : List (Nat × List Value)} {X Y : World} (h : Rs l X) (hb : Below X.heap.size X Y) : Rs l Y := ⟨fun r hr => (h.all r hr).step hb⟩
theorem Rs.get {l : List (Nat × List Value)} {w : World} (h : Rs l w) (i : Nat) {b : Nat} {vs : List Value} (e : l[i]? = some (b, vs)) : At b vs w := h.all (b, vs) (List.mem_of_getElem? e)
theorem Rs.sub {l l' : List (Nat × List Value)} {w : World} (h : Rs l w) (s : ∀ r, r ∈ l' → r ∈ l) : Rs l' w := ⟨fun r hr => h.all r (s r hr)⟩
theorem calls_abs {P : Program} {f : FuncId} {args : Array Value} {w : World} {Q : Ending → World → Prop} (S : World → Prop) (h : S w) (k : ∀ w', S w' → Calls P f args w' Q) : Calls P f args w Q := k w h
theorem wp_abs2 {P : Program} {c : Code} {Q : Exit → Act → World → Prop} {a : Act} {w : World} (S : World → Prop) (h : S w) (k : ∀ w', S w' → c.wp P Q a w') : c.wp P Q a w := k w h
theorem go_on {w W wk X : World} {l : List (Nat × List Value)} (HB : Below w.heap.size w W) (HR : Rs l W) (hb : Below W.heap.size W wk) (hx : Below wk.heap.size wk X) : Below w.heap.size w X ∧ Rs l X :=
  have h := Below.trans hb (Below.mono hx hb.size)
  ⟨HB.trans (h.mono HB.size), HR.step h⟩

theorem at2 {b : Nat} {w : World} {a0 a1 : Value} (h : b < w.heap.size) (h0 : w.cell? ⟨b, 0, none⟩ = some a0) (h1 : w.cell? ⟨b, 1, none⟩ = some a1) : At b [a0, a1] w :=
  ⟨h, fun i hi => match i, hi with
    | 0, _ => h0
    | 1, _ => h1
    | k + 2, hk => absurd hk (by simp)⟩
theorem at3 {b : Nat} {w : World} {a0 a1 a2 : Value} (h : b < w.heap.size) (h0 : w.cell? ⟨b, 0, none⟩ = some a0) (h1 : w.cell? ⟨b, 1, none⟩ = some a1) (h2 : w.cell? ⟨b, 2, none⟩ = some a2) : At b [a0, a1, a2] w :=
  ⟨h, fun i hi => match i, hi with
    | 0, _ => h0
    | 1, _ => h1
    | 2, _ => h2
    | k + 3, hk => absurd hk (by simp)⟩
theorem at6 {b : Nat} {w : World} {a0 a1 a2 a3 a4 a5 : Value} (h : b < w.heap.size) (h0 : w.cell? ⟨b, 0, none⟩ = some a0) (h1 : w.cell? ⟨b, 1, none⟩ = some a1) (h2 : w.cell? ⟨b, 2, none⟩ = some a2) (h3 : w.cell? ⟨b, 3, none⟩ = some a3) (h4 : w.cell? ⟨b, 4, none⟩ = some a4) (h5 : w.cell? ⟨b, 5, none⟩ = some a5) : At b [a0, a1, a2, a3, a4, a5] w :=
  ⟨h, fun i hi => match i, hi with
    | 0, _ => h0
    | 1, _ => h1
    | 2, _ => h2
    | 3, _ => h3
    | 4, _ => h4
    | 5, _ => h5
    | k + 6, hk => absurd hk (by simp)⟩
theorem at9 {b : Nat} {w : World} {a0 a1 a2 a3 a4 a5 a6 a7 a8 : Value} (h : b < w.heap.size) (h0 : w.cell? ⟨b, 0, none⟩ = some a0) (h1 : w.cell? ⟨b, 1, none⟩ = some a1) (h2 : w.cell? ⟨b, 2, none⟩ = some a2) (h3 : w.cell? ⟨b, 3, none⟩ = some a3) (h4 : w.cell? ⟨b, 4, none⟩ = some a4) (h5 : w.cell? ⟨b, 5, none⟩ = some a5) (h6 : w.cell? ⟨b, 6, none⟩ = some a6) (h7 : w.cell? ⟨b, 7, none⟩ = some a7) (h8 : w.cell? ⟨b, 8, none⟩ = some a8) : At b [a0, a1, a2, a3, a4, a5, a6, a7, a8] w :=
  ⟨h, fun i hi => match i, hi with
    | 0, _ => h0
    | 1, _ => h1
    | 2, _ => h2
    | 3, _ => h3
    | 4, _ => h4
    | 5, _ => h5
    | 6, _ => h6
    | 7, _ => h7
    | 8, _ => h8
    | k + 9, hk => absurd hk (by simp)⟩
theorem at12 {b : Nat} {w : World} {a0 a1 a2 a3 a4 a5 a6 a7 a8 a9 a10 a11 : Value} (h : b < w.heap.size) (h0 : w.cell? ⟨b, 0, none⟩ = some a0) (h1 : w.cell? ⟨b, 1, none⟩ = some a1) (h2 : w.cell? ⟨b, 2, none⟩ = some a2) (h3 : w.cell? ⟨b, 3, none⟩ = some a3) (h4 : w.cell? ⟨b, 4, none⟩ = some a4) (h5 : w.cell? ⟨b, 5, none⟩ = some a5) (h6 : w.cell? ⟨b, 6, none⟩ = some a6) (h7 : w.cell? ⟨b, 7, none⟩ = some a7) (h8 : w.cell? ⟨b, 8, none⟩ = some a8) (h9 : w.cell? ⟨b, 9, none⟩ = some a9) (h10 : w.cell? ⟨b, 10, none⟩ = some a10) (h11 : w.cell? ⟨b, 11, none⟩ = some a11) : At b [a0, a1, a2, a3, a4, a5, a6, a7, a8, a9, a10, a11] w :=
  ⟨h, fun i hi => match i, hi with
    | 0, _ => h0
    | 1, _ => h1
    | 2, _ => h2
    | 3, _ => h3
    | 4, _ => h4
    | 5, _ => h5
    | 6, _ => h6
    | 7, _ => h7
    | 8, _ => h8
    | 9, _ => h9
    | 10, _ => h10
    | 11, _ => h11
    | k + 12, hk => absurd hk (by simp)⟩
@[go_sem] theorem eqV48 (d : Nat) (a0 a1 a2 b0 b1 b2 : Int) (w : World) :
    (Op.equalIn (d + 2) 48 (.agg #[.int .i64 a0, .int .i64 a1, .int .i64 a2]) (.agg #[.int .i64 b0, .int .i64 b1, .int .i64 b2])).run Try.prog w = .ok (a0 == b0 && (a1 == b1 && a2 == b2)) w := by
  obtain ⟨i, hi⟩ := some_of_isSome (o := Try.prog.info? 3) (by kernel_rfl)
  have und : Try.prog.underlying 48 = some (.array 3 3) := by kernel_rfl
  have c3 : Try.prog.cellsOf 3 = 1 := by kernel_rfl
  rw [run_equalIn_array w (d + 1) _ _ und hi, c3]
  have p0 : ∀ (x y z : Value) (w : World), (part 3 #[x, y, z] 0).run Try.prog w = .ok x w := fun _ _ _ _ => by kernel_rfl
  have p1 : ∀ (x y z : Value) (w : World), (part 3 #[x, y, z] 1).run Try.prog w = .ok y w := fun _ _ _ _ => by kernel_rfl
  have p2 : ∀ (x y z : Value) (w : World), (part 3 #[x, y, z] 2).run Try.prog w = .ok z w := fun _ _ _ _ => by kernel_rfl
  simp [List.range_succ, Op.eqItems, p0, p1, p2, run_equalIn_int (h := Try.underlying3)]
  by_cases h0 : a0 = b0 <;> by_cases h1 : a1 = b1 <;> by_cases h2 : a2 = b2 <;> simp [h0, h1, h2]


@[go_sem] theorem eqRat (d : Nat) (a0 a1 b0 b1 : Int) (w : World) :
    (Op.equalIn (d + 2) 75 (.agg #[.int .i64 a0, .int .i64 a1]) (.agg #[.int .i64 b0, .int .i64 b1])).run Try.prog w = .ok (a0 == b0 && (a1 == b1)) w := by
  have hl : (Try.prog.fieldsOf 75).toList.map (fun f => (f.name == "_", f.type, f.offset)) = [(false, 3, 0), (false, 3, 1)] := by kernel_rfl
  rw [run_equalIn_agg w (d + 1) 75 _ _ (by kernel_rfl) (by kernel_rfl)]
  rcases hL : (Try.prog.fieldsOf 75).toList with _ | ⟨f1, _ | ⟨f2, _ | ⟨f3, l⟩⟩⟩ <;> rw [hL] at hl <;> simp at hl
  obtain ⟨⟨g1, t1, o1⟩, g2, t2, o2⟩ := hl
  have p0 : ∀ (c0 c1 : Value) (w : World), (part 3 #[c0, c1] 0).run Try.prog w = .ok c0 w := fun _ _ _ => by kernel_rfl
  have p1 : ∀ (c0 c1 : Value) (w : World), (part 3 #[c0, c1] 1).run Try.prog w = .ok c1 w := fun _ _ _ => by kernel_rfl
  simp [Op.eqFields, g1, g2, t1, t2, o1, o2, p0, p1, run_equalIn_int (h := Try.underlying3)]
  by_cases h0 : a0 = b0 <;> by_cases h1 : a1 = b1 <;> simp [h0, h1]

end Go.Proofs.Ytdhlkhockpblhaa
