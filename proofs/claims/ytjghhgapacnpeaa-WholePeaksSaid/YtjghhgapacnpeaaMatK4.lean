/-
  Rows, places, sides.
-/
import Derived.Test.YtjghhgapacnpeaaBase
import Derived.Deep.OwnRows
import Derived.Shelf.Abstract
import Derived.Lib.Hide
import Derived.Lib.Walk
import Derived.StillTail
import Derived.Deep.QuietTactic
import Derived.BigQuiet
namespace Go.Proofs.Ytjghhgapacnpeaa
open Go.RowKit Go.Lib
attribute [local irreducible] World.setCell
set_option linter.unusedSimpArgs false
set_option linter.unusedVariables false

theorem wp_abs {P : Program} {c : Code} {Q : Exit → Act → World → Prop} {a : Act} {w : World} (S : World → Prop) (h : S w) (k : ∀ w', S w' → c.wp P Q a w') : c.wp P Q a w := k w h/-- Rows that a world holds. -/
structure Row where
  g : Nat
  t : TypeId
  n : Nat
  f : Nat → Value
instance : Inhabited Row := ⟨⟨0, 0, 0, fun _ => .bool false⟩⟩
def nth : List Row → Nat → Row
  | [], _ => default
  | r :: _, 0 => r
  | _ :: l, i + 1 => nth l i
theorem nth_mem : ∀ (l : List Row) (i : Nat), i < l.length → nth l i ∈ l
  | [], i, h => absurd h (Nat.not_lt_zero _)
  | r :: l, 0, _ => List.mem_cons_self
  | r :: l, i + 1, h => List.mem_cons_of_mem _ (nth_mem l i (by simpa using h))
structure Has (l : List Row) (X : World) : Prop where
  all : ∀ r, r ∈ l → X.rowIs r.g r.t r.n r.f
theorem Has.nil (X : World) : Has [] X := ⟨fun r h => absurd h List.not_mem_nil⟩
theorem Has.cons {X : World} {l : List Row} {g : Nat} {t : TypeId} {n : Nat} {f : Nat → Value} (h : X.rowIs g t n f) (hl : Has l X) : Has (⟨g, t, n, f⟩ :: l) X :=
  ⟨fun r hr => by
    rcases List.mem_cons.1 hr with rfl | hr
    · exact h
    · exact hl.all r hr⟩
theorem Has.step {l : List Row} {X Y : World} (h : Has l X) (hb : Below X.heap.size X Y) : Has l Y := ⟨fun r hr => (h.all r hr).of_block (hb.block _ (h.all r hr).lt)⟩
theorem Has.one {l : List Row} {X : World} (h : Has l X) (i : Nat) (hi : i < l.length) : X.rowIs (nth l i).g (nth l i).t (nth l i).n (nth l i).f := h.all _ (nth_mem l i hi)
theorem Has.lt {l : List Row} {X : World} (h : Has l X) : ∀ r, r ∈ l → r.g < X.heap.size := fun r hr => (h.all r hr).lt
theorem Has.tail {l : List Row} {r : Row} {X : World} (h : Has (r :: l) X) : Has l X := ⟨fun r hr => h.all r (List.mem_cons_of_mem _ hr)⟩
/-- A store into the first row. -/
theorem Has.put {X : World} {l : List Row} {g : Nat} {t : TypeId} {n : Nat} {f f' : Nat → Value} (h : Has (⟨g, t, n, f⟩ :: l) X) (k : Nat) (v : Value) (hl : ∀ r, r ∈ l → r.g ≠ g) (e : ∀ i, i < n → f' i = if i = k then v else f i) : Has (⟨g, t, n, f'⟩ :: l) (X.setCell ⟨g, k, none⟩ v) :=
  .cons (((h.one 0 (by simp)).set k v).congr fun i hi => (e i hi).symm) ⟨fun r hr => (h.tail.all r hr).setOther (hl r hr) v⟩
theorem Has.congr {X : World} {l : List Row} {g : Nat} {t : TypeId} {n : Nat} {f f' : Nat → Value} (h : Has (⟨g, t, n, f⟩ :: l) X) (e : ∀ i, i < n → f i = f' i) : Has (⟨g, t, n, f'⟩ :: l) X := .cons ((h.one 0 (by simp)).congr e) h.tail
/-- Two ways that meet: what is shown of both is shown once. -/
structure Hold (T : Prop) : Prop where
  out : T
theorem meet {T G : Prop} (a : Hold T → G) (b : T) : G := a ⟨b⟩

theorem then_abs {K Q a w} (S : World → Prop) (h : S w) (k : ∀ w', S w' → Exit.then K Q .normal a w') : Exit.then K Q .normal a w := k w h
theorem rounds_abs {P : Program} {c : Code} {Q : Exit → Act → World → Prop} {k : Nat} {a : Act} {w : World} (S : World → Prop) (h : S w) (kk : ∀ w', S w' → Code.rounds P c Q k a w') : Code.rounds P c Q k a w := kk w h
theorem alloc_below (W : World) (o : Obj) : Below W.heap.size W (W.alloc o) := (Below.refl _ _).alloc (Nat.le_refl _) o
/-- A row told by a list. -/
def lv (l : List Value) (i : Nat) : Value := l.getD i (.bool false)
theorem alloc_lv (w : World) (l : List Value) (t : TypeId) : (w.alloc (.cells l.toArray t)).rowIs w.heap.size t l.length (lv l) := by
  have h := World.rowIs_alloc w l.toArray t (lv l) (fun i hi => by
    have : i < l.length := by simpa using hi
    simp [lv, this])
  simpa using h
/-- Stores into one block, place by place. -/
def sets (X : World) (g : Nat) : Nat → List Value → World
  | _, [] => X
  | k, v :: l => sets (X.setCell ⟨g, k, none⟩ v) g (k + 1) l
theorem sets_other : ∀ (l : List Value) {X : World} {g g' k : Nat} {t : TypeId} {n : Nat} {f : Nat → Value}, X.rowIs g' t n f → g' ≠ g → (sets X g k l).rowIs g' t n f
  | [], _, _, _, _, _, _, _, h, _ => h
  | v :: l, _, _, _, _, _, _, _, h, hn => sets_other l (h.setOther hn v) hn
theorem sets_row : ∀ (l : List Value) {X : World} {g k : Nat} {t : TypeId} {n : Nat} {f : Nat → Value}, X.rowIs g t n f → (sets X g k l).rowIs g t n (fun i => if k ≤ i ∧ i < k + l.length then l.getD (i - k) (.bool false) else f i)
  | [], _, _, _, _, _, _, h => h.congr fun i _ => by rw [if_neg (by simp only [List.length_nil]; omega)]
  | v :: l, _, _, k, _, _, f, h => (sets_row l (k := k + 1) (h.set k v)).congr fun i _ => by
    simp only [List.length_cons]
    by_cases q : i = k
    · subst q
      rw [if_neg (by omega), if_pos rfl, if_pos (by omega), Nat.sub_self]; rfl
    · by_cases z : k + 1 ≤ i ∧ i < k + 1 + l.length
      · rw [if_pos z, if_pos (by omega), show i - k = (i - (k + 1)) + 1 by omega]; rfl
      · rw [if_neg z, if_neg q, if_neg (by omega)]
theorem sets_all {X : World} {g : Nat} {t : TypeId} {n : Nat} {f : Nat → Value} (l : List Value) (h : X.rowIs g t n f) (hl : n = l.length) : (sets X g 0 l).rowIs g t n (lv l) :=
  (sets_row l (k := 0) h).congr fun i hi => by rw [if_pos (by omega)]; rfl
theorem sets_below : ∀ (l : List Value) {B : Nat} {w X : World} {g k : Nat}, Below B w X → B ≤ g → Below B w (sets X g k l)
  | [], _, _, _, _, _, h, _ => h
  | v :: l, _, _, _, _, _, h, hg => sets_below l (h.setCell hg v) hg
theorem Has.sets {X : World} {l : List Row} {g : Nat} {t : TypeId} {n : Nat} {f : Nat → Value} (h : Has (⟨g, t, n, f⟩ :: l) X) (vs : List Value) (hn : n = vs.length) (hl : ∀ r, r ∈ l → r.g ≠ g) : Has (⟨g, t, n, lv vs⟩ :: l) (Go.Proofs.Ytjghhgapacnpeaa.sets X g 0 vs) :=
  .cons (sets_all vs (h.one 0 (by simp)) hn) ⟨fun r hr => sets_other vs (h.tail.all r hr) (hl r hr)⟩
theorem Has.swap {X : World} {l : List Row} {a b : Row} (h : Has (a :: b :: l) X) : Has (b :: a :: l) X := ⟨fun r hr => h.all r (by
  rcases List.mem_cons.1 hr with rfl | hr
  · exact List.mem_cons_of_mem _ List.mem_cons_self
  · rcases List.mem_cons.1 hr with rfl | hr
    · exact List.mem_cons_self
    · exact List.mem_cons_of_mem _ (List.mem_cons_of_mem _ hr))⟩
theorem BelowW.bel {B : Nat} {W : World} (x : BelowW B W) : Below B W x.1 := x.2
theorem region_headq {P : Program} {id : Nat} {Q : Exit → Act → World → Prop} {a : Act} {W : World} {l : List Oper} (n : Nat) (hm : P.follows .mixedOrders = true) (hB : Region.lexTailB .any l.toArray n = true)
    (h : wpQuiet P l.toArray (fun w' => ∃ k, w' = W.drewN k) (fun a' => ∀ w', (∃ k, w' = W.drewN k) → wpList P l.toArray Q (l.drop n) a' w') (l.take n) a) : (Code.region id l.toArray true).wp P Q a W :=
  wp_region_quiet_tail (C := fun w' => ∃ k, w' = W.drewN k) n hm hB ⟨1, rfl⟩ h
def at0 (n1 n2 i : Nat) : Nat := i / (n1 * n2)
def at1 (n1 n2 i : Nat) : Nat := i / n2 % n1
def at2 (n2 i : Nat) : Nat := i % n2
/-- A box's number of a place. -/
def enc (n1 n2 p q r : Nat) : Nat := (p * n1 + q) * n2 + r
theorem enc_lt {n0 n1 n2 p q r : Nat} (hp : p < n0) (hq : q < n1) (hr : r < n2) : enc n1 n2 p q r < n0 * n1 * n2 := by
  unfold enc
  have h1 : p * n1 + q < n0 * n1 := Nat.lt_of_lt_of_le (show p * n1 + q < (p + 1) * n1 by rw [Nat.add_mul]; omega) (Nat.mul_le_mul_right _ hp)
  exact Nat.lt_of_lt_of_le (show (p * n1 + q) * n2 + r < (p * n1 + q + 1) * n2 by rw [Nat.add_mul (p * n1 + q)]; omega) (Nat.mul_le_mul_right _ h1)
theorem at0_def (n1 n2 i : Nat) : at0 n1 n2 i = i / n2 / n1 := by unfold at0; rw [Nat.div_div_eq_div_mul, Nat.mul_comm]
theorem enc_div {n1 n2 p q r : Nat} (hr : r < n2) : enc n1 n2 p q r / n2 = p * n1 + q := by
  unfold enc
  rw [Nat.add_comm, Nat.add_mul_div_right _ _ (by omega), Nat.div_eq_of_lt hr, Nat.zero_add]
theorem at0_enc {n1 n2 p q r : Nat} (hq : q < n1) (hr : r < n2) : at0 n1 n2 (enc n1 n2 p q r) = p := by
  rw [at0_def, enc_div hr, Nat.add_comm, Nat.add_mul_div_right _ _ (by omega), Nat.div_eq_of_lt hq, Nat.zero_add]
theorem at1_enc {n1 n2 p q r : Nat} (hq : q < n1) (hr : r < n2) : at1 n1 n2 (enc n1 n2 p q r) = q := by
  unfold at1
  rw [enc_div hr, Nat.add_comm, Nat.add_mul_mod_self_right, Nat.mod_eq_of_lt hq]
theorem at2_enc {n1 n2 p q r : Nat} (hr : r < n2) : at2 n2 (enc n1 n2 p q r) = r := by
  unfold at2 enc
  rw [Nat.add_comm, Nat.add_mul_mod_self_right, Nat.mod_eq_of_lt hr]
theorem enc_at (n1 n2 i : Nat) : enc n1 n2 (at0 n1 n2 i) (at1 n1 n2 i) (at2 n2 i) = i := by
  rw [at0_def]
  unfold enc at1 at2
  rw [Nat.mul_comm (i / n2 / n1), Nat.div_add_mod, Nat.mul_comm (i / n2), Nat.div_add_mod]
theorem at0_lt {n0 n1 n2 i : Nat} (hi : i < n0 * n1 * n2) : at0 n1 n2 i < n0 := by
  unfold at0
  rw [Nat.mul_assoc] at hi
  exact Nat.div_lt_of_lt_mul (by rw [Nat.mul_comm (n1 * n2)]; exact hi)
theorem at1_lt {n1 n2 i : Nat} (h : 0 < n1) : at1 n1 n2 i < n1 := Nat.mod_lt _ h
theorem at2_lt {n2 i : Nat} (h : 0 < n2) : at2 n2 i < n2 := Nat.mod_lt _ h
def v3 (n0 n1 n2 : Nat) (i : Nat) : Value := if i = 0 then .int .i64 n0 else if i = 1 then .int .i64 n1 else .int .i64 n2
def v4 (n0 n1 n2 : Nat) (s : Value) (i : Nat) : Value := if i = 0 then .int .i64 n0 else if i = 1 then .int .i64 n1 else if i = 2 then .int .i64 n2 else s
theorem v4_row (w : World) (n0 n1 n2 : Nat) (s : Value) : (w.alloc (.cells #[.int .i64 n0, .int .i64 n1, .int .i64 n2, s] 49)).rowIs w.heap.size 49 4 (v4 n0 n1 n2 s) :=
  World.rowIs_alloc w #[.int .i64 n0, .int .i64 n1, .int .i64 n2, s] 49 (v4 n0 n1 n2 s) (fun i hi => by match i, hi with | 0, _ => rfl | 1, _ => rfl | 2, _ => rfl | 3, _ => rfl)
theorem v3_row (w : World) (n0 n1 n2 : Nat) : (w.alloc (.cells #[.int .i64 n0, .int .i64 n1, .int .i64 n2] 30)).rowIs w.heap.size 30 3 (v3 n0 n1 n2) :=
  World.rowIs_alloc w #[.int .i64 n0, .int .i64 n1, .int .i64 n2] 30 (v3 n0 n1 n2) (fun i hi => by match i, hi with | 0, _ => rfl | 1, _ => rfl | 2, _ => rfl)
theorem v4_set {X : World} {g a0 a1 a2 n0 n1 n2 : Nat} {t s : Value} (h : X.rowIs g 49 4 (v4 a0 a1 a2 t)) : ((((X.setCell ⟨g, 0, none⟩ (.int .i64 n0)).setCell ⟨g, 1, none⟩ (.int .i64 n1)).setCell ⟨g, 2, none⟩ (.int .i64 n2)).setCell ⟨g, 3, none⟩ s).rowIs g 49 4 (v4 n0 n1 n2 s) :=
  ((((h.set 0 _).set 1 _).set 2 _).set 3 _).congr fun i hi => by match i, hi with | 0, _ => rfl | 1, _ => rfl | 2, _ => rfl | 3, _ => rfl
theorem v3_set {X : World} {g a0 a1 a2 n0 n1 n2 : Nat} (h : X.rowIs g 30 3 (v3 a0 a1 a2)) : (((X.setCell ⟨g, 0, none⟩ (.int .i64 n0)).setCell ⟨g, 1, none⟩ (.int .i64 n1)).setCell ⟨g, 2, none⟩ (.int .i64 n2)).rowIs g 30 3 (v3 n0 n1 n2) :=
  (((h.set 0 _).set 1 _).set 2 _).congr fun i hi => by match i, hi with | 0, _ => rfl | 1, _ => rfl | 2, _ => rfl
def upZ (j : Nat) (f : Nat → Int) (i : Nat) : Value := if i < j then .int .i64 (f i) else .int .i64 0
theorem upZ_step {w : World} {g n j : Nat} {f : Nat → Int} (h : w.rowIs g 3 n (upZ j f)) (v : Value) (hv : v = .int .i64 (f j)) : (w.setCell ⟨g, j, none⟩ v).rowIs g 3 n (upZ (j + 1) f) :=
  (h.set j v).congr fun i _ => by
    unfold upZ
    by_cases e : i = j
    · subst e; rw [if_pos rfl, if_pos (by omega), hv]
    · rw [if_neg e]
      by_cases q : i < j
      · rw [if_pos q, if_pos (by omega)]
      · rw [if_neg q, if_neg (by omega)]
/-- A slice of n elements that reads f. -/
def Rd (w : World) (v : Value) (n : Nat) (f : Nat → Value) : Prop := ∃ a cap, v = .slice a n cap ∧ (0 < n → ∃ b off, a = some ⟨b, off, none⟩ ∧ b < w.heap.size ∧ ∀ i, i < n → w.cell? ⟨b, off + i, none⟩ = some (f i))
theorem Rd.below {w w' : World} {v : Value} {n : Nat} {f : Nat → Value} (h : Rd w v n f) (hb : Below w.heap.size w w') : Rd w' v n f := by
  obtain ⟨a, cap, rfl, h⟩ := h
  refine ⟨a, cap, rfl, fun q => ?_⟩
  obtain ⟨b, off, rfl, hl, hc⟩ := h q
  exact ⟨b, off, rfl, Nat.lt_of_lt_of_le hl hb.size, fun i hi => (hb.cell (p := ⟨b, off + i, none⟩) hl).trans (hc i hi)⟩
theorem Rd.congr {w : World} {v : Value} {n : Nat} {f g : Nat → Value} (h : Rd w v n f) (e : ∀ i, i < n → f i = g i) : Rd w v n g := by
  obtain ⟨a, cap, rfl, h⟩ := h
  refine ⟨a, cap, rfl, fun q => ?_⟩
  obtain ⟨b, off, rfl, hl, hc⟩ := h q
  exact ⟨b, off, rfl, hl, fun i hi => by rw [← e i hi]; exact hc i hi⟩
theorem rd_row {w : World} {g n : Nat} {t : TypeId} {f : Nat → Value} (h : w.rowIs g t n f) : Rd w (.slice (some ⟨g, 0, none⟩) n n) n f :=
  ⟨_, _, rfl, fun _ => ⟨g, 0, rfl, h.lt, fun i hi => by rw [Nat.zero_add]; exact h.cell hi⟩⟩
theorem rd_nil (w : World) (f : Nat → Value) : Rd w (.slice none 0 0) 0 f := ⟨_, _, rfl, fun q => absurd q (Nat.lt_irrefl _)⟩

/-- The sides. -/
def lenT (i : Nat) : Nat := ([1, 2, 3, 4, 6, 8, 12, 16, 24, 32, 48, 64, 96, 192] : List Nat).getD i 0
def lenOf (b most : Nat) : Nat := if lenT (b % 14) ≤ most then lenT (b % 14) else if lenT (b % 5) ≤ most then lenT (b % 5) else 1
theorem lenT_right {i : Nat} (h : i < 14) : 1 ≤ lenT i ∧ lenT i ≤ 192 := by
  match i, h with
  | 0, _ => decide
  | 1, _ => decide
  | 2, _ => decide
  | 3, _ => decide
  | 4, _ => decide
  | 5, _ => decide
  | 6, _ => decide
  | 7, _ => decide
  | 8, _ => decide
  | 9, _ => decide
  | 10, _ => decide
  | 11, _ => decide
  | 12, _ => decide
  | 13, _ => decide
theorem lenOf_right (b most : Nat) (hm : 1 ≤ most) : 1 ≤ lenOf b most ∧ lenOf b most ≤ most := by
  have h1 := lenT_right (Nat.mod_lt b (show 0 < 14 by decide))
  have h2 := lenT_right (Nat.lt_of_lt_of_le (Nat.mod_lt b (show 0 < 5 by decide)) (show 5 ≤ 14 by decide))
  unfold lenOf
  split
  · exact ⟨h1.1, by assumption⟩
  · split
    · exact ⟨h2.1, by assumption⟩
    · exact ⟨Nat.le_refl _, hm⟩
set_option maxHeartbeats 2000000 in
set_option maxRecDepth 100000 in
theorem lengths_any (b most : Nat) (w : World) (hb : b ≤ 255) (hm : 1 ≤ most) (hm2 : most ≤ 192) : Calls Try.prog 18 #[.int .u8 b, .int .i64 most] w fun e w' => e = .returned (.int .i64 (lenOf b most : Nat)) ∧ Below w.heap.size w w' := by
  obtain ⟨q, eq⟩ : ∃ q, q = b % 14 := ⟨_, rfl⟩
  obtain ⟨r, er⟩ : ∃ q, q = b % 5 := ⟨_, rfl⟩
  have hq : (b : Int) % 14 = (q : Int) := by rw [eq]; rfl
  have hr : (b : Int) % 5 = (r : Int) := by rw [er]; rfl
  have q14 : q < 14 := by omega
  have r14 : r < 5 := by omega
  have qi : (q : Int) < 14 := by omega
  have ri : (r : Int) < 5 := by omega
  have HL := Lib.hid (show lenOf b most = if lenT q ≤ most then lenT q else if lenT r ≤ most then lenT r else 1 by unfold lenOf; rw [← eq, ← er])
  have hrow := World.rowIs_alloc w #[.int .i64 1, .int .i64 2, .int .i64 3, .int .i64 4, .int .i64 6, .int .i64 8, .int .i64 12, .int .i64 16, .int .i64 24, .int .i64 32, .int .i64 48, .int .i64 64, .int .i64 96, .int .i64 192] 67 (fun i => .int .i64 (lenT i : Nat)) (fun i hi => by
    match i, hi with
    | 0, _ => rfl
    | 1, _ => rfl
    | 2, _ => rfl
    | 3, _ => rfl
    | 4, _ => rfl
    | 5, _ => rfl
    | 6, _ => rfl
    | 7, _ => rfl
    | 8, _ => rfl
    | 9, _ => rfl
    | 10, _ => rfl
    | 11, _ => rfl
    | 12, _ => rfl
    | 13, _ => rfl)
  have bq := lenT_right q14
  have br := lenT_right (i := r) (by omega)
  obtain ⟨x, ex⟩ : ∃ x, x = lenT q := ⟨_, rfl⟩
  obtain ⟨y, ey⟩ : ∃ x, x = lenT r := ⟨_, rfl⟩
  have c1 := hrow.cell (i := q) q14
  have c2 := hrow.cell (i := r) (Nat.lt_trans r14 (by decide))
  simp only [← ex, ← ey] at c1 c2 bq br HL
  have b1 : (x : Int) ≤ 192 := by omega
  have b2 : (y : Int) ≤ 192 := by omega
  have bm : (most : Int) ≤ 192 := by omega
  have bb : (b : Int) ≤ 255 := by omega
  clear hrow eq er ex ey bq br hb
  by_cases h1 : x ≤ most
  · have HV := Lib.hid (show lenOf b most = x by rw [HL.out, if_pos h1])
    have h1' : ¬ (most : Int) < (x : Int) := by omega
    clear h1 HL
    go_enter Try.func18, Try.ntmps18
    go_wp2
    refine wp_loop_rounds 1 ?_
    rw [rounds_succ]
    go_wp2
    go_ret
    exact ⟨by rw [HV.out]; rfl, (by repeat (first | assumption | exact Below.refl _ _ | refine below_drewN ?_ _ | refine Below.drew ?_ | refine Below.alloc ?_ (by first | (simp; done) | (simp; omega) | omega) _ | refine Below.setCell ?_ (by first | (simp; done) | (simp; omega) | omega) _))⟩
  · by_cases h2 : y ≤ most
    · have HV := Lib.hid (show lenOf b most = y by rw [HL.out, if_neg h1, if_pos h2])
      have h1' : (most : Int) < (x : Int) := by omega
      have h2' : ¬ (most : Int) < (y : Int) := by omega
      clear h1 h2 HL
      go_enter Try.func18, Try.ntmps18
      go_wp2
      refine wp_loop_rounds 2 ?_
      rw [rounds_succ]
      go_wp2
      rw [rounds_succ]
      go_wp2
      go_ret
      exact ⟨by rw [HV.out]; rfl, (by repeat (first | assumption | exact Below.refl _ _ | refine below_drewN ?_ _ | refine Below.drew ?_ | refine Below.alloc ?_ (by first | (simp; done) | (simp; omega) | omega) _ | refine Below.setCell ?_ (by first | (simp; done) | (simp; omega) | omega) _))⟩
    · have HV := Lib.hid (show lenOf b most = 1 by rw [HL.out, if_neg h1, if_neg h2])
      have h1' : (most : Int) < (x : Int) := by omega
      have h2' : (most : Int) < (y : Int) := by omega
      have h3' : ¬ (most : Int) < 1 := by omega
      clear h1 h2 HL
      go_enter Try.func18, Try.ntmps18
      go_wp2
      refine wp_loop_rounds 2 ?_
      rw [rounds_succ]
      go_wp2
      rw [rounds_succ]
      go_wp2
      go_ret
      exact ⟨by rw [HV.out]; rfl, (by repeat (first | assumption | exact Below.refl _ _ | refine below_drewN ?_ _ | refine Below.drew ?_ | refine Below.alloc ?_ (by first | (simp; done) | (simp; omega) | omega) _ | refine Below.setCell ?_ (by first | (simp; done) | (simp; omega) | omega) _))⟩
set_option maxHeartbeats 2000000 in
theorem among_any (a : Int) (n : Nat) (w : World) (h0 : 0 < n) (h1 : n ≤ 192) : Calls Try.prog 22 #[.int .i64 a, .int .i64 n] w fun e w' => e = .returned (.int .i64 (a % n)) ∧ w = w' := by
  have t1 := Int.lt_tmod_of_pos a (show (0 : Int) < n by omega)
  have t2 := Int.tmod_lt_of_pos a (show (0 : Int) < n by omega)
  have e0 : (a.tmod n) % (n : Int) = a % n := by
    have hh := Int.mul_tdiv_add_tmod a n
    have h2 := Int.add_mul_emod_self_left (a.tmod n) n (a.tdiv n)
    rw [← h2, Int.add_comm, hh]
  obtain ⟨q, eq⟩ : ∃ q, q = a.tmod n := ⟨_, rfl⟩
  rw [← eq] at t1 t2 e0
  have n1 : (1 : Int) ≤ n := by omega
  have n2 : (n : Int) ≤ 192 := by omega
  have zn : ¬ n = 0 := by omega
  have eq' := eq.symm
  clear eq
  by_cases hq : q < 0
  · have HV := Lib.hid (show a % n = q + n by rw [← e0, ← Int.add_emod_right, Int.emod_eq_of_lt (by omega) (by omega)])
    clear e0 h0 h1
    go_enter Try.func22, Try.ntmps22
    go_wp2
    go_ret
    exact ⟨by rw [HV.out]; rfl, rfl⟩
  · have HV := Lib.hid (show a % n = q by rw [← e0, Int.emod_eq_of_lt (by omega) (by omega)])
    clear e0 h0 h1
    go_enter Try.func22, Try.ntmps22
    go_wp2
    go_ret
    exact ⟨by rw [HV.out]; rfl, rfl⟩
set_option maxHeartbeats 2000000 in
set_option maxRecDepth 100000 in
theorem spot_any (n0 n1 n2 a b c : Nat) (w : World) (h1 : n1 ≤ 192) (h2 : n2 ≤ 192) (ha : a ≤ 192) (hb : b ≤ 192) (hc : c ≤ 192) : Calls Try.prog 21 #[.agg #[.int .i64 a, .int .i64 b, .int .i64 c], .agg #[.int .i64 n0, .int .i64 n1, .int .i64 n2]] w fun e w' => e = .returned (.int .i64 ((a * n1 + b) * n2 + c : Nat)) ∧ Below w.heap.size w w' := by
  have p1 : a * n1 ≤ 36864 := Nat.mul_le_mul ha h1
  have p2 : (a * n1 + b) * n2 ≤ 37056 * 192 := Nat.mul_le_mul (by omega) h2
  have a0 : (0 : Int) ≤ n1 ∧ (n1 : Int) ≤ 192 := by omega
  have a1 : (0 : Int) ≤ n2 ∧ (n2 : Int) ≤ 192 := by omega
  have a2 : (0 : Int) ≤ a ∧ (a : Int) ≤ 192 := by omega
  have a3 : (0 : Int) ≤ b ∧ (b : Int) ≤ 192 := by omega
  have a4 : (0 : Int) ≤ c ∧ (c : Int) ≤ 192 := by omega
  have q1 : wrap64 ((a : Int) * n1) = ((a * n1 : Nat) : Int) := by rw [Int.natCast_mul]; exact wrap_id _ (by rw [← Int.natCast_mul]; omega) (by rw [← Int.natCast_mul]; omega)
  obtain ⟨p, ep⟩ : ∃ p, p = a * n1 := ⟨_, rfl⟩
  rw [← ep] at p1 p2 q1
  have q2 : wrap64 (((p + b : Nat) : Int) * n2) = (((p + b) * n2 : Nat) : Int) := by rw [Int.natCast_mul]; exact wrap_id _ (by rw [← Int.natCast_mul]; omega) (by rw [← Int.natCast_mul]; omega)
  obtain ⟨q, eq⟩ : ∃ q, q = (p + b) * n2 := ⟨_, rfl⟩
  rw [← ep, ← eq]
  rw [← eq] at p2 q2
  have hq1 := congrArg (Value.int IntKind.i64) q1
  have hq2 := congrArg (Value.int IntKind.i64) q2
  rw [Int.natCast_add] at hq2
  have b1 : (p : Int) ≤ 36864 := by omega
  have b2 : (q : Int) ≤ 7114752 := by omega
  have HQ := Lib.hid (show ((q + c : Nat) : Int) = (q : Int) + (c : Int) from Int.natCast_add _ _)
  clear q1 q2 eq ep p1 p2 h1 h2 ha hb hc
  obtain ⟨a00, a01⟩ := a0; obtain ⟨a10, a11⟩ := a1; obtain ⟨a20, a21⟩ := a2; obtain ⟨a30, a31⟩ := a3; obtain ⟨a40, a41⟩ := a4
  rw [HQ.out]
  go_enter Try.func21, Try.ntmps21
  go_wp2
  go_ret
  exact ⟨rfl, (by repeat (first | assumption | exact Below.refl _ _ | refine below_drewN ?_ _ | refine Below.drew ?_ | refine Below.alloc ?_ (by first | (simp; done) | (simp; omega) | omega) _ | refine Below.setCell ?_ (by first | (simp; done) | (simp; omega) | omega) _))⟩

end Go.Proofs.Ytjghhgapacnpeaa
