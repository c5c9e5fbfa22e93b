/-
  Rows that a world holds.
-/
import Derived.Test.YtdhlkhockpblhaaBase
import Derived.Deep.OwnRows
namespace Go.Proofs.Ytdhlkhockpblhaa
open Go.RowKit
attribute [local irreducible] World.setCell

set_option linter.unusedSimpArgs false
set_option linter.unusedVariables false

/-- Rows that a world holds. -/
structure Row where
  g : Nat
  t : TypeId
  n : Nat
  f : Nat → Value
instance : Inhabited Row := ⟨⟨0, 0, 0, fun _ => .bool false⟩⟩
def nth : List Row → Nat → Row
  | [], _ => default
  | r :: _, 0 => r
  | _ :: l, i + 1 => nth l i
theorem nth_mem : ∀ (l : List Row) (i : Nat), i < l.length → nth l i ∈ l
  | [], i, h => absurd h (Nat.not_lt_zero _)
  | r :: l, 0, _ => List.mem_cons_self
  | r :: l, i + 1, h => List.mem_cons_of_mem _ (nth_mem l i (by simpa using h))
structure Has (l : List Row) (X : World) : Prop where
  all : ∀ r, r ∈ l → X.rowIs r.g r.t r.n r.f
theorem Has.nil (X : World) : Has [] X := ⟨fun r h => absurd h List.not_mem_nil⟩
theorem Has.cons {X : World} {l : List Row} {g : Nat} {t : TypeId} {n : Nat} {f : Nat → Value} (h : X.rowIs g t n f) (hl : Has l X) : Has (⟨g, t, n, f⟩ :: l) X :=
  ⟨fun r hr => by
    rcases List.mem_cons.1 hr with rfl | hr
    · exact h
    · exact hl.all r hr⟩
theorem Has.step {l : List Row} {X Y : World} (h : Has l X) (hb : Below X.heap.size X Y) : Has l Y := ⟨fun r hr => (h.all r hr).of_block (hb.block _ (h.all r hr).lt)⟩
theorem Has.one {l : List Row} {X : World} (h : Has l X) (i : Nat) (hi : i < l.length) : X.rowIs (nth l i).g (nth l i).t (nth l i).n (nth l i).f := h.all _ (nth_mem l i hi)
theorem Has.lt {l : List Row} {X : World} (h : Has l X) : ∀ r, r ∈ l → r.g < X.heap.size := fun r hr => (h.all r hr).lt
theorem Has.tail {l : List Row} {r : Row} {X : World} (h : Has (r :: l) X) : Has l X := ⟨fun r hr => h.all r (List.mem_cons_of_mem _ hr)⟩
/-- A store into the first row. -/
theorem Has.put {X : World} {l : List Row} {g : Nat} {t : TypeId} {n : Nat} {f f' : Nat → Value} (h : Has (⟨g, t, n, f⟩ :: l) X) (k : Nat) (v : Value) (hl : ∀ r, r ∈ l → r.g ≠ g) (e : ∀ i, i < n → f' i = if i = k then v else f i) : Has (⟨g, t, n, f'⟩ :: l) (X.setCell ⟨g, k, none⟩ v) :=
  .cons (((h.one 0 (by simp)).set k v).congr fun i hi => (e i hi).symm) ⟨fun r hr => (h.tail.all r hr).setOther (hl r hr) v⟩
theorem Has.congr {X : World} {l : List Row} {g : Nat} {t : TypeId} {n : Nat} {f f' : Nat → Value} (h : Has (⟨g, t, n, f⟩ :: l) X) (e : ∀ i, i < n → f i = f' i) : Has (⟨g, t, n, f'⟩ :: l) X := .cons ((h.one 0 (by simp)).congr e) h.tail
/-- Two ways that meet: what is shown of both is shown once. -/
structure Hold (T : Prop) : Prop where
  out : T
theorem meet {T G : Prop} (a : Hold T → G) (b : T) : G := a ⟨b⟩

theorem then_abs {K Q a w} (S : World → Prop) (h : S w) (k : ∀ w', S w' → Exit.then K Q .normal a w') : Exit.then K Q .normal a w := k w h
theorem rounds_abs {P : Program} {c : Code} {Q : Exit → Act → World → Prop} {k : Nat} {a : Act} {w : World} (S : World → Prop) (h : S w) (kk : ∀ w', S w' → Code.rounds P c Q k a w') : Code.rounds P c Q k a w := kk w h
theorem alloc_below (W : World) (o : Obj) : Below W.heap.size W (W.alloc o) := (Below.refl _ _).alloc (Nat.le_refl _) o
/-- A row told by a list. -/
def lv (l : List Value) (i : Nat) : Value := l.getD i (.bool false)
theorem alloc_lv (w : World) (l : List Value) (t : TypeId) : (w.alloc (.cells l.toArray t)).rowIs w.heap.size t l.length (lv l) := by
  have h := World.rowIs_alloc w l.toArray t (lv l) (fun i hi => by
    have : i < l.length := by simpa using hi
    simp [lv, this])
  simpa using h
/-- Stores into one block, place by place. -/
def sets (X : World) (g : Nat) : Nat → List Value → World
  | _, [] => X
  | k, v :: l => sets (X.setCell ⟨g, k, none⟩ v) g (k + 1) l
theorem sets_other : ∀ (l : List Value) {X : World} {g g' k : Nat} {t : TypeId} {n : Nat} {f : Nat → Value}, X.rowIs g' t n f → g' ≠ g → (sets X g k l).rowIs g' t n f
  | [], _, _, _, _, _, _, _, h, _ => h
  | v :: l, _, _, _, _, _, _, _, h, hn => sets_other l (h.setOther hn v) hn
theorem sets_row : ∀ (l : List Value) {X : World} {g k : Nat} {t : TypeId} {n : Nat} {f : Nat → Value}, X.rowIs g t n f → (sets X g k l).rowIs g t n (fun i => if k ≤ i ∧ i < k + l.length then l.getD (i - k) (.bool false) else f i)
  | [], _, _, _, _, _, _, h => h.congr fun i _ => by rw [if_neg (by simp only [List.length_nil]; omega)]
  | v :: l, _, _, k, _, _, f, h => (sets_row l (k := k + 1) (h.set k v)).congr fun i _ => by
    simp only [List.length_cons]
    by_cases q : i = k
    · subst q
      rw [if_neg (by omega), if_pos rfl, if_pos (by omega), Nat.sub_self]; rfl
    · by_cases z : k + 1 ≤ i ∧ i < k + 1 + l.length
      · rw [if_pos z, if_pos (by omega), show i - k = (i - (k + 1)) + 1 by omega]; rfl
      · rw [if_neg z, if_neg q, if_neg (by omega)]
theorem sets_all {X : World} {g : Nat} {t : TypeId} {n : Nat} {f : Nat → Value} (l : List Value) (h : X.rowIs g t n f) (hl : n = l.length) : (sets X g 0 l).rowIs g t n (lv l) :=
  (sets_row l (k := 0) h).congr fun i hi => by rw [if_pos (by omega)]; rfl
theorem sets_below : ∀ (l : List Value) {B : Nat} {w X : World} {g k : Nat}, Below B w X → B ≤ g → Below B w (sets X g k l)
  | [], _, _, _, _, _, h, _ => h
  | v :: l, _, _, _, _, _, h, hg => sets_below l (h.setCell hg v) hg
theorem Has.sets {X : World} {l : List Row} {g : Nat} {t : TypeId} {n : Nat} {f : Nat → Value} (h : Has (⟨g, t, n, f⟩ :: l) X) (vs : List Value) (hn : n = vs.length) (hl : ∀ r, r ∈ l → r.g ≠ g) : Has (⟨g, t, n, lv vs⟩ :: l) (Go.Proofs.Ytdhlkhockpblhaa.sets X g 0 vs) :=
  .cons (sets_all vs (h.one 0 (by simp)) hn) ⟨fun r hr => sets_other vs (h.tail.all r hr) (hl r hr)⟩
theorem Has.swap {X : World} {l : List Row} {a b : Row} (h : Has (a :: b :: l) X) : Has (b :: a :: l) X := ⟨fun r hr => h.all r (by
  rcases List.mem_cons.1 hr with rfl | hr
  · exact List.mem_cons_of_mem _ List.mem_cons_self
  · rcases List.mem_cons.1 hr with rfl | hr
    · exact List.mem_cons_self
    · exact List.mem_cons_of_mem _ (List.mem_cons_of_mem _ hr))⟩
theorem BelowW.bel {B : Nat} {W : World} (x : BelowW B W) : Below B W x.1 := x.2

end Go.Proofs.Ytdhlkhockpblhaa
