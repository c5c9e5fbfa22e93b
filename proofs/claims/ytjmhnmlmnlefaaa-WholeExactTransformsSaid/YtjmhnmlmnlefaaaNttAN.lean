/-
  Slices that calls answer; blocks that are kept; what any list, any grid gives.
-/
import Derived.Test.YtjmhnmlmnlefaaaNttAM
import Derived.Laws.CopyOwn
import Derived.OwnWalk
namespace Go.Proofs.Ytjmhnmlmnlefaaa
open Go.RowKit Go.Lib
attribute [local irreducible] World.setCell
set_option linter.unusedSimpArgs false
set_option linter.unusedVariables false


/-- A slice that a call has answered: none, or one whose row lies in blocks from lo on, below hi. -/
def Own (t : TypeId) (w : World) (lo hi : Nat) (o : Option Addr) (K : Nat) (f : Nat → Value) : Prop :=
  (K = 0 ∧ o = none) ∨ (0 < K ∧ ∃ g, o = some ⟨g, 0, none⟩ ∧ lo ≤ g ∧ g < hi ∧ w.rowIs g t K f)
theorem Own.row {t : TypeId} {w : World} {lo hi K : Nat} {o : Option Addr} {f : Nat → Value} (h : Own t w lo hi o K f) (hK : 0 < K) : ∃ g, o = some ⟨g, 0, none⟩ ∧ lo ≤ g ∧ g < hi ∧ w.rowIs g t K f := by
  rcases h with ⟨h, _⟩ | ⟨_, h⟩
  · omega
  · exact h
theorem Own.rd {t : TypeId} {w : World} {lo hi K : Nat} {o : Option Addr} {f : Nat → Value} (h : Own t w lo hi o K f) (c : Nat) : Rd w (.slice o K c) K f :=
  ⟨o, c, rfl, fun hK => by
    obtain ⟨g, rfl, _, _, hr⟩ := h.row hK
    exact ⟨g, 0, rfl, hr.lt, fun i hi => by rw [Nat.zero_add]; exact hr.cell hi⟩⟩
theorem Own.keep {t : TypeId} {w w' : World} {lo hi K : Nat} {o : Option Addr} {f : Nat → Value} (h : Own t w lo hi o K f) (hb : ∀ b, lo ≤ b → b < hi → b < w.heap.size → w'.heap[b]? = w.heap[b]?) : Own t w' lo hi o K f := by
  rcases h with h | ⟨h, g, rfl, h1, h2, hr⟩
  · exact .inl h
  · exact .inr ⟨h, g, rfl, h1, h2, hr.of_block (hb g h1 h2 hr.lt)⟩
theorem Own.step {t : TypeId} {w w' : World} {lo hi K : Nat} {o : Option Addr} {f : Nat → Value} (h : Own t w lo hi o K f) (hb : Below w.heap.size w w') : Own t w' lo hi o K f := h.keep fun b _ _ hl => hb.block b hl
theorem Own.owns {t : TypeId} {w : World} {lo hi K : Nat} {o : Option Addr} {f : Nat → Value} (h : Own t w lo hi o K f) (B : Nat) (hB : B ≤ lo) (hm : K ≤ maxLen) : ∃ xs : List Value, w.ownsRow B t 1 (.slice o K K) K xs := by
  rcases h with ⟨rfl, rfl⟩ | ⟨h, g, rfl, h1, h2, hr⟩
  · exact ⟨[], World.ownsRow_nil _ _ _ _⟩
  · obtain ⟨c, hb, hc, hf⟩ := hr
    refine ⟨c.toList, by simp [hc], .inr ⟨g, K, c, rfl, by omega, hb, Nat.le_refl _, hm, by omega, ?_⟩⟩
    rw [List.take_of_length_le (by simp; omega)]
theorem Own.blk {t : TypeId} {w : World} {lo hi K : Nat} {o : Option Addr} {f : Nat → Value} (h : Own t w lo hi o K f) (c : Nat) : ∀ k, Value.ownBlock (.slice o K c) = some k → lo ≤ k ∧ k < hi := fun k hk => by
  rcases h with ⟨_, rfl⟩ | ⟨_, g, rfl, h1, h2, _⟩
  · cases hk
  · cases hk; exact ⟨h1, h2⟩
theorem Own.set {t : TypeId} {w : World} {lo hi K : Nat} {o : Option Addr} {f : Nat → Value} (h : Own t w lo hi o K f) (j : Nat) (hj : j < K) (v : Value) : ∃ g φ, o = some ⟨g, 0, none⟩ ∧ lo ≤ g ∧ g < hi ∧ Own t (w.setCell ⟨g, j, none⟩ v) lo hi o K φ := by
  obtain ⟨g, rfl, h1, h2, hr⟩ := h.row (by omega)
  exact ⟨g, _, rfl, h1, h2, .inr ⟨by omega, g, rfl, h1, h2, hr.set j v⟩⟩
/-- The blocks but those of D are as they were. -/
structure KB (D : Nat → Prop) (X Y : World) : Prop where
  size : X.heap.size ≤ Y.heap.size
  block : ∀ b, b < X.heap.size → ¬ D b → Y.heap[b]? = X.heap[b]?
theorem KB.refl (D : Nat → Prop) (X : World) : KB D X X := ⟨Nat.le_refl _, fun _ _ _ => rfl⟩
theorem KB.mono {D E : Nat → Prop} {X Y : World} (h : KB D X Y) (e : ∀ b, D b → E b) : KB E X Y := ⟨h.size, fun b hb hn => h.block b hb fun d => hn (e b d)⟩
theorem KB.step {D : Nat → Prop} {X Y Z : World} {B : Nat} (h : KB D X Y) (hb : Below B Y Z) (hB : X.heap.size ≤ B) : KB D X Z := ⟨Nat.le_trans h.size hb.size, fun b hb' hn => (hb.block b (by omega)).trans (h.block b hb' hn)⟩
theorem KB.set {D : Nat → Prop} {X Y : World} (h : KB D X Y) (p : Addr) (v : Value) (hp : D p.block) : KB D X (Y.setCell p v) :=
  ⟨by rw [World.size_setCell]; exact h.size, fun b hb hn => (Go.Deep.blk_setCell_other _ _ _ _ (fun e => hn (by rw [e]; exact hp))).trans (h.block b hb hn)⟩
theorem KB.grown {D : Nat → Prop} {X Y Z : World} {row : Option Nat} (h : KB D X Y) (hg : Y.grownBy Z row) (hr : ∀ k, row = some k → D k) : KB D X Z :=
  ⟨Nat.le_trans h.size hg.size, fun b hb hn => (hg.block b (Nat.lt_of_lt_of_le hb h.size) (fun e => hn (hr b e.symm))).trans (h.block b hb hn)⟩
theorem KB.row {D : Nat → Prop} {X Y : World} (h : KB D X Y) {g : Nat} {t : TypeId} {n : Nat} {f : Nat → Value} (hr : X.rowIs g t n f) (hn : ¬ D g) : Y.rowIs g t n f := hr.of_block (h.block g hr.lt hn)
theorem KB.own {D : Nat → Prop} {X Y : World} (h : KB D X Y) {t : TypeId} {lo hi K : Nat} {o : Option Addr} {f : Nat → Value} (hr : Own t X lo hi o K f) (hn : ∀ b, lo ≤ b → b < hi → ¬ D b) : Own t Y lo hi o K f := hr.keep fun b h1 h2 hl => h.block b hl (hn b h1 h2)
/-- What the transforms answer to any list. -/
structure LineAll (v : Value) (c : Int) (K : Nat) (f g : Nat → F) (W : World) : Prop where
  line : Calls Try.prog 23 #[v] W fun e w' => (∃ o, e = .returned (.tuple #[.slice o K K, .int .i64 c]) ∧ Own 41 w' W.heap.size w'.heap.size o K (fun i => wd (f i))) ∧ Below W.heap.size W w'
  unline : Calls Try.prog 29 #[v] W fun e w' => (∃ o, e = .returned (.tuple #[.slice o K K, .int .i64 c]) ∧ Own 41 w' W.heap.size w'.heap.size o K (fun i => wd (g i))) ∧ Below W.heap.size W w'
  dline : Calls Try.prog 27 #[v] W fun e w' => (∃ s, e = .returned (.tuple #[s, .int .i64 c]) ∧ Rd w' s K (fun i => wd (f i))) ∧ Below W.heap.size W w'
  dunline : Calls Try.prog 30 #[v] W fun e w' => (∃ s, e = .returned (.tuple #[s, .int .i64 c]) ∧ Rd w' s K (fun i => wd (g i))) ∧ Below W.heap.size W w'
theorem lists_all (n : Nat) (X : Nat → Nat) : ∃ (c : Int) (K : Nat) (f g : Nat → F), K ≤ 192 ∧ ∀ v W, Rd W v n (fun i => wn (X i)) → LineAll v c K f g W := by
  have bad : ∀ (c : Int) (v : Value) (W : World), BadL v c W → LineAll v c 0 (fun _ => 0) (fun _ => 0) W := fun c v W h =>
    ⟨h.line.mono fun e w' ⟨e1, e2⟩ => ⟨⟨none, e1, .inl ⟨rfl, rfl⟩⟩, e2 ▸ Below.refl _ _⟩, h.unline.mono fun e w' ⟨e1, e2⟩ => ⟨⟨none, e1, .inl ⟨rfl, rfl⟩⟩, e2 ▸ Below.refl _ _⟩,
     h.dline.mono fun e w' ⟨e1, e2⟩ => ⟨⟨_, e1, rd_nil _ _⟩, e2 ▸ Below.refl _ _⟩, h.dunline.mono fun e w' ⟨e1, e2⟩ => ⟨⟨_, e1, rd_nil _ _⟩, e2 ▸ Below.refl _ _⟩⟩
  cases hr : rightB n
  · refine ⟨1, 0, fun _ => 0, fun _ => 0, by omega, fun v W h => bad 1 v W ?_⟩
    obtain ⟨a, cap, rfl, _⟩ := h
    exact ⟨Line_arg a n cap W hr, Unline_arg a n cap W hr, DocLine_arg a n cap W hr, DocUnline_arg a n cap W hr⟩
  · rcases first_bad n X with q | ⟨m, hm, hlo, hbad⟩
    · refine ⟨0, n, dft n (rt n) (fun i => Fin.ofNat PP (X i)), idft n (fun i => Fin.ofNat PP (X i)), (right_le hr).2.2, fun v W h => ?_⟩
      obtain ⟨h0, hd, hn⟩ := right_le hr
      have h2 := rd_wd (x := fun i => Fin.ofNat PP (X i)) h fun i hi => by
        show X i = X i % 18446744069414584321
        rw [Nat.mod_eq_of_lt (q i hi)]
      have hG := good_line hr h2
      obtain ⟨a, cap, rfl, h3⟩ := h2
      obtain ⟨b, off, rfl, hl, hc⟩ := h3 h0
      exact ⟨(Line_ok b off n cap _ W hr hl hc).mono fun e w' ⟨⟨g, e1, e2, e3⟩, hb⟩ => ⟨⟨_, e1, .inr ⟨h0, g, rfl, e2, e3.lt, e3⟩⟩, hb⟩,
        (Unline_ok b off n cap _ W hr hl hc).mono fun e w' ⟨⟨g, e1, e2, e3⟩, hb⟩ => ⟨⟨_, e1, .inr ⟨h0, g, rfl, e2, e3.lt, e3⟩⟩, hb⟩,
        hG.dline.mono fun e w' ⟨⟨r, e1, e2⟩, hb⟩ => ⟨⟨r, e1, rd_made e2⟩, hb⟩, hG.dunline.mono fun e w' ⟨⟨r, e1, e2⟩, hb⟩ => ⟨⟨r, e1, rd_made e2⟩, hb⟩⟩
    · refine ⟨3, 0, fun _ => 0, fun _ => 0, by omega, fun v W h => bad 3 v W ?_⟩
      obtain ⟨a, cap, rfl, h⟩ := h
      obtain ⟨b, off, rfl, hl, hc⟩ := h (by omega)
      exact ⟨Line_form b off n cap m X W hr hm hc hlo hbad, Unline_form b off n cap m X W hr hm hc hlo hbad, DocLine_form b off n cap m X W hr hm hc hlo hbad, DocUnline_form b off n cap m X W hr hm hc hlo hbad⟩
/-- Each grid has one error, wherever its numbers lie. -/
theorem grid_all (n0 n1 n2 : Int) (len : Nat) (V : Nat → Int) (hl : len ≤ 17592186044416) :
    ∃ c : Int, (0 ≤ c ∧ c ≤ 4) ∧ (c = 0 → Good n0 n1 n2 len V) ∧ ∀ s w, Rd w s len (fun i => .int .i64 (V i)) → Calls Try.prog 37 #[.agg #[.int .i64 n0, .int .i64 n1, .int .i64 n2, s]] w (fun e w'' => e = .returned (.int .i64 c) ∧ Below w.heap.size w w'') ∧ Calls Try.prog 36 #[.agg #[.int .i64 n0, .int .i64 n1, .int .i64 n2, s]] w (fun e w'' => e = .returned (.int .i64 c) ∧ Below w.heap.size w w'') := by
  cases h : (rightB n0 && rightB n1 && rightB n2)
  · exact ⟨1, by omega, fun q => by omega, fun s w _ => ⟨counts_bad n0 n1 n2 s w h, rchk_bad n0 n1 n2 s w h⟩⟩
  · simp only [Bool.and_eq_true] at h
    obtain ⟨⟨h0, h1⟩, h2⟩ := h
    obtain ⟨m, hm, hlo, hbad⟩ := first_great V len
    have e0 := right_nat h0; have e1 := right_nat h1; have e2 := right_nat h2
    refine ⟨cerr (n0.toNat * n1.toNat * n2.toNat) len m, ?_, ?_, fun s w hR => ?_⟩
    · unfold cerr; split <;> (try split) <;> (try split) <;> omega
    · intro q
      unfold cerr at q
      split at q
      · omega
      split at q
      · omega
      split at q
      · omega
      · exact ⟨h0, h1, h2, by omega, by omega, fun i hi => hlo i (by omega)⟩
    · obtain ⟨a, cap, rfl, hs⟩ := hR
      have t1 := counts_box n0.toNat n1.toNat n2.toNat len cap m a V w (by rw [e0]; exact h0) (by rw [e1]; exact h1) (by rw [e2]; exact h2) hl hs hm hlo hbad
      have t2 := rchk_box n0.toNat n1.toNat n2.toNat len cap m a V w (by rw [e0]; exact h0) (by rw [e1]; exact h1) (by rw [e2]; exact h2) hl hs hm hlo hbad
      rw [e0, e1, e2] at t1 t2
      exact ⟨t1, t2⟩
/-- What the folds of a grid with itself answer. -/
structure FoldAll (n0 n1 n2 : Int) (s : Value) (p0 p1 p2 f : Int) (K : Nat) (Z : Nat → Int) (W : World) : Prop where
  fold : Calls Try.prog 15 #[gv n0 n1 n2 s, gv n0 n1 n2 s] W fun e w' => (∃ o, e = .returned (.tuple #[.agg #[.int .i64 p0, .int .i64 p1, .int .i64 p2, .slice o K K], .int .i64 f]) ∧ Own 3 w' W.heap.size w'.heap.size o K (fun i => .int .i64 (Z i))) ∧ Below W.heap.size W w'
  doc : Calls Try.prog 16 #[gv n0 n1 n2 s, gv n0 n1 n2 s] W fun e w' => (∃ o, e = .returned (.tuple #[.agg #[.int .i64 p0, .int .i64 p1, .int .i64 p2, .slice o K K], .int .i64 f]) ∧ Own 3 w' W.heap.size w'.heap.size o K (fun i => .int .i64 (Z i))) ∧ Below W.heap.size W w'
theorem fold_all (n0 n1 n2 : Int) (len : Nat) (V : Nat → Int) (hl : len ≤ 17592186044416) : ∃ (p0 p1 p2 f : Int) (K : Nat) (Z : Nat → Int) (fb : Bool), K ≤ 262144 ∧ ∀ s w, Rd w s len (fun i => .int .i64 (V i)) →
    FoldAll n0 n1 n2 s p0 p1 p2 f K Z w ∧ Calls Try.prog 14 #[gv n0 n1 n2 s] w (fun e w'' => e = .returned (.bool fb) ∧ Below w.heap.size w w'') := by
  obtain ⟨c, hc, hg, hA⟩ := grid_all n0 n1 n2 len V hl
  have few : ∀ s w, Rd w s len (fun i => .int .i64 (V i)) → Calls Try.prog 14 #[gv n0 n1 n2 s] w (fun e w'' => e = .returned (.bool (decide (c ≠ 0 ∨ len ≤ 600))) ∧ Below w.heap.size w w'') := fun s w hR => by
    have hR' := hR
    obtain ⟨a, cap, rfl, _⟩ := hR'
    exact few_box n0 n1 n2 c len cap a w hl (fun w'' h => (hA _ w'' (hR.below h)).2)
  by_cases hc0 : c = 0
  · have ga := hg hc0
    have e0 := right_nat ga.r0; have e1 := right_nat ga.r1; have e2 := right_nat ga.r2
    have hr : rightB ((n0.toNat : Nat) : Int) = true ∧ rightB ((n1.toNat : Nat) : Int) = true ∧ rightB ((n2.toNat : Nat) : Int) = true := by rw [e0, e1, e2]; exact ⟨ga.r0, ga.r1, ga.r2⟩
    have hpos : 0 < len := by rw [ga.hL]; exact Nat.mul_pos (Nat.mul_pos (right_le hr.1).1 (right_le hr.2.1).1) (right_le hr.2.2).1
    refine ⟨n0, n1, n2, 0, len, foldZ n0.toNat n1.toNat n2.toNat V V, _, ga.hb, fun s w hR => ⟨?_, few s w hR⟩⟩
    have hR0 := hR
    obtain ⟨a, ka, rfl, hR⟩ := hR
    obtain ⟨ba, oa, rfl, hl1, hV⟩ := hR hpos
    constructor
    · have h := Fold_ok n0.toNat n1.toNat n2.toNat len ba oa ka ba oa ka V V w hr ga.hL ga.hb hl1 hl1 hV ga.hV hV ga.hV
      rw [e0, e1, e2] at h
      refine h.mono ?_
      rintro e w'' ⟨⟨g, rfl, hg, hrow⟩, hb2⟩
      exact ⟨⟨_, rfl, .inr ⟨hpos, g, rfl, hg, hrow.lt, hrow⟩⟩, hb2⟩
    · refine (DocFold_ok n0 n1 n2 _ _ len (foldZ n0.toNat n1.toNat n2.toNat V V) w (fun w'' h => hc0 ▸ (hA _ w'' (hR0.below h)).2) (fun w'' h => hc0 ▸ (hA _ w'' (hR0.below h)).2) (fun w'' hbb => ?_)).mono ?_
      · have hV' : ∀ i, i < len → w''.cell? ⟨ba, oa + i, none⟩ = some (.int .i64 (V i)) := fun i hi => (hbb.cell (p := ⟨ba, oa + i, none⟩) hl1).trans (hV i hi)
        have h := RFold_ok n0.toNat n1.toNat n2.toNat len ba oa ka ba oa ka V V w'' hr ga.hL ga.hb (Nat.lt_of_lt_of_le hl1 hbb.size) (Nat.lt_of_lt_of_le hl1 hbb.size) hV' ga.hV hV' ga.hV
        rw [e0, e1, e2] at h
        exact h
      · rintro e w'' ⟨⟨g, rfl, hg, hrow⟩, hb2⟩
        exact ⟨⟨_, rfl, .inr ⟨hpos, g, rfl, hg, hrow.lt, hrow⟩⟩, hb2⟩
  · have hf : fcode n0 n1 n2 n0 n1 n2 c c = c := by
      have e : least2 c c = c := by unfold least2; split <;> rfl
      unfold fcode
      rw [e, if_neg hc0]
    refine ⟨0, 0, 0, c, 0, fun _ => 0, _, by omega, fun s w hR => ⟨⟨?_, ?_⟩, few s w hR⟩⟩
    · have h := Fold_bad n0 n1 n2 n0 n1 n2 c c s s w (by rw [hf]; exact hc0) (fun w'' h => (hA _ w'' (hR.below h)).1) (fun w'' h => (hA _ w'' (hR.below h)).1)
      rw [hf] at h
      exact h.mono fun e w'' ⟨e1, e2⟩ => ⟨⟨none, e1, .inl ⟨rfl, rfl⟩⟩, e2⟩
    · have h := DocFold_bad n0 n1 n2 n0 n1 n2 c c s s w (by rw [hf]; exact hc0) hc hc (fun w'' h => (hA _ w'' (hR.below h)).2) (fun w'' h => (hA _ w'' (hR.below h)).2)
      rw [hf] at h
      exact h.mono fun e w'' ⟨e1, e2⟩ => ⟨⟨none, e1, .inl ⟨rfl, rfl⟩⟩, e2⟩
theorem mk_spare (t e : TypeId) (z : Value) (ht : Try.prog.underlying t = some (.slice e)) (hinfo : (Try.prog.info? e).map (fun i => (i.zero, i.size, i.bytes)) = some (some z, 1, 8)) (hz1 : z.cells = #[z]) (n : Nat) (h : n ≤ 17592186044416) (w : World) :
    (Instr.makeSlice t (.int .i64 (n : Int)) (.int .i64 ((n : Int) + 1))).run Try.prog w = .ok (.slice (some ⟨w.heap.size, 0, none⟩) n (n + 1)) (w.alloc (.cells (madeCells #[z] (n + 1)) e)) := by
  obtain ⟨i, hi, hzz⟩ := Option.map_eq_some_iff.1 hinfo
  simp only [Prod.mk.injEq] at hzz
  obtain ⟨hz, hs, hb⟩ := hzz
  have hr := run_make (P := Try.prog) w t e i z ht hi hz .i64 .i64 n (n + 1) (by omega) (by omega) (by rw [hb]; omega) (by omega)
  have e1 : ((n : Int) + 1).toNat = n + 1 := by omega
  simp only [Int.toNat_natCast, hs, Nat.mul_one, hz1, e1] at hr
  exact hr
/-- The cells of a list, copied into a row with one place more. -/
def LV (n : Nat) (f : Nat → Value) : List Value := (List.range n).map f
theorem LV_len (n : Nat) (f : Nat → Value) : (LV n f).length = n := by simp [LV]
theorem LV_get {n : Nat} {f : Nat → Value} {i : Nat} (h : i < n) : (LV n f)[i]? = some (f i) := by simp [LV, h]
theorem LV_spec {n : Nat} {f : Nat → Value} {j : Nat} {u : Value} (h : (LV n f)[j]? = some u) : j < n ∧ u = f j := by
  have hj : j < n := by
    rcases Nat.lt_or_ge j n with q | q
    · exact q
    · rw [List.getElem?_eq_none (by rw [LV_len]; exact q)] at h; cases h
  rw [LV_get hj] at h
  exact ⟨hj, (Option.some.inj h).symm⟩
theorem copied {w : World} {g n : Nat} {t : TypeId} {z : Value} {f : Nat → Value} (h : w.heap[g]? = some (.cells (splice (List.replicate (n + 1) z) 0 (LV n f)).toArray t (0, 0))) : w.rowIs g t (n + 1) (fun i => if i < n then f i else z) := by
  refine ⟨_, h, by simp [splice, LV_len], fun i hi => ?_⟩
  simp only [splice, List.take_zero, List.nil_append, Nat.zero_add, LV_len, List.drop_replicate]
  rw [List.getElem?_toArray]
  by_cases e : i < n
  · rw [List.getElem?_append_left (by rw [LV_len]; exact e), LV_get e, if_pos e]
  · rw [List.getElem?_append_right (by rw [LV_len]; omega), if_neg e, LV_len, List.getElem?_replicate, if_pos (by omega)]
theorem row_owns {w : World} {g n B : Nat} {t : TypeId} {f : Nat → Value} (h : w.rowIs g t (n + 1) f) (hB : B ≤ g) (hm : n + 1 ≤ maxLen) : w.ownsRow B t 1 (.slice (some ⟨g, 0, none⟩) n (n + 1)) n (LV n f) := by
  obtain ⟨c, hb, hc, hf⟩ := h
  refine ⟨by rw [LV_len, Nat.mul_one], .inr ⟨g, n + 1, c, rfl, hB, hb, by omega, hm, by omega, ?_⟩⟩
  apply List.ext_getElem?
  intro i
  by_cases q : i < n
  · rw [List.getElem?_take_of_lt (by omega), Array.getElem?_toList, hf i (by omega), LV_get q]
  · rw [List.getElem?_eq_none (by simp; omega), List.getElem?_eq_none (by rw [LV_len]; omega)]
theorem owns_row {w : World} {g n B : Nat} {t : TypeId} {f : Nat → Value} {v : Value} (h : w.ownsRow B t 1 (.slice (some ⟨g, 0, none⟩) (n + 1) (n + 1)) (n + 1) (LV n f ++ [v])) : w.rowIs g t (n + 1) (fun i => if i < n then f i else v) := by
  rcases h.2 with ⟨h, _⟩ | ⟨g', cap, cur, he, hb, hg, h1, h2, h3, h4⟩
  · cases h
  · simp only [Value.slice.injEq, Option.some.injEq, Addr.mk.injEq] at he
    obtain ⟨⟨rfl, _⟩, _, rfl⟩ := he
    refine ⟨cur, hg, by omega, fun i hi => ?_⟩
    have : (cur.toList.take ((n + 1) * 1))[i]? = (LV n f ++ [v])[i]? := by rw [h4]
    rw [List.getElem?_take_of_lt (by omega), Array.getElem?_toList] at this
    rw [this]
    show _ = some (if i < n then f i else v)
    by_cases e : i < n
    · rw [List.getElem?_append_left (by rw [LV_len]; exact e), LV_get e, if_pos e]
    · rw [List.getElem?_append_right (by rw [LV_len]; omega), if_neg e, LV_len, show i - n = 0 by omega]; rfl
/-- Behind an append that has put something a slice is one of so many elements. -/
theorem owns_slice {w : World} {B n : Nat} {t : TypeId} {v : Value} {xs : List Value} (h : w.ownsRow B t 1 v n xs) (hn : 0 < n) : ∃ g cap, v = .slice (some ⟨g, 0, none⟩) n cap := by
  rcases h.2 with ⟨_, h⟩ | ⟨g, cap, cur, rfl, _⟩
  · omega
  · exact ⟨g, cap, rfl⟩
theorem made_block (W : World) (z : Value) (m : Nat) (e : TypeId) : (W.alloc (.cells (madeCells #[z] m) e)).heap[W.heap.size]? = some (.cells (List.replicate m z).toArray e (0, 0)) := by
  obtain ⟨c, hb, hc, hf⟩ := W.rowIs_made z m e
  rw [hb]
  congr 2
  apply Array.ext
  · simp [hc]
  · intro i h1 h2
    have h3 := hf i (by omega)
    rw [Array.getElem?_eq_getElem h1] at h3
    simp only [Option.some.injEq] at h3
    simp [h3]
theorem row_rd {w : World} {g m n : Nat} {t : TypeId} {f h : Nat → Value} (hr : w.rowIs g t m f) (hn : n ≤ m) (e : ∀ i, i < n → f i = h i) (c : Nat) : Rd w (.slice (some ⟨g, 0, none⟩) n c) n h :=
  ⟨_, c, rfl, fun _ => ⟨g, 0, rfl, hr.lt, fun i hi => by rw [Nat.zero_add, hr.cell (by omega), e i hi]⟩⟩
theorem LV_cut (n : Nat) (f : Nat → Value) (z : Value) : LV n (fun i => if i < n then f i else z) = LV n f := by
  unfold LV
  exact List.map_congr_left fun i hi => by rw [if_pos (List.mem_range.1 hi)]
theorem LVmin (n : Nat) (f : Nat → Value) : (LV n f).length = Nat.min n n := by rw [LV_len]; exact (Nat.min_self _).symm
theorem LVfit (n : Nat) (f : Nat → Value) (z : Value) : 0 + (LV n f).length ≤ (List.replicate (n + 1) z).length := by simp [LV_len]
theorem LVone {n : Nat} {f : Nat → Value} (h : ∀ i, (f i).oneCell' = true) : ∀ v ∈ LV n f, v.oneCell' = true := fun v hv => by
  unfold LV at hv
  obtain ⟨i, _, rfl⟩ := List.mem_map.1 hv
  exact h i
theorem LVpos {W : World} {xa : Option Addr} {n xc g : Nat} {f : Nat → Value} (h : Rd W (.slice xa n xc) n f) (o : Obj) : 0 < (LV n f).length → (some ⟨g, 0, none⟩ : Option Addr) = some ⟨g, 0, none⟩ ∧ ∃ ad, xa = some ad ∧ ∀ j v, (LV n f)[j]? = some v → (W.alloc o).cell? (ad.add j) = some v := by
  intro hpos
  rw [LV_len] at hpos
  obtain ⟨_, _, he, hrd⟩ := h
  cases he
  obtain ⟨b, off, rfl, hl, hc⟩ := hrd hpos
  refine ⟨rfl, _, rfl, fun j v hj => ?_⟩
  obtain ⟨hj2, rfl⟩ := LV_spec hj
  have h3 : (W.alloc o).cell? ⟨b, off + j, none⟩ = some (f j) := (World.cell?_alloc_some W ⟨b, off + j, none⟩ _ (by rw [hc j hj2]; rfl)).trans (hc j hj2)
  have h4 : (⟨b, off, none⟩ : Addr).add j = ⟨b, off + j, none⟩ := by
    unfold Addr.add
    split
    · rename_i e; subst e; rfl
    · rfl
  rw [h4]; exact h3
theorem owns_cut {w : World} {g n : Nat} {t : TypeId} {f : Nat → Value} {z : Value} (h : w.rowIs g t (n + 1) (fun i => if i < n then f i else z)) (o : Obj) (hm : n ≤ 17592186044416) : (w.alloc o).ownsRow g t 1 (.slice (some ⟨g, 0, none⟩) n (n + 1)) n (LV n f) := by
  have h2 := row_owns (B := g) (h.alloc o) (Nat.le_refl _) (by unfold maxLen; omega)
  rw [LV_cut] at h2
  exact h2
theorem lit1 (w : World) (v : Value) (e : TypeId) : ∀ j u, [v][j]? = some u → (w.alloc (.cells #[v] e)).cell? ((⟨w.heap.size, 0, none⟩ : Addr).add j) = some u := fun j u h => by
  match j, h with
  | 0, h => cases h; go_simp
theorem lit2 (w : World) (u v : Value) (e : TypeId) : ∀ j x, [u, v][j]? = some x → (w.alloc (.cells #[u, v] e)).cell? ((⟨w.heap.size, 0, none⟩ : Addr).add j) = some x := fun j x h => by
  match j, h with
  | 0, h => cases h; go_simp
  | 1, h => cases h; show (w.alloc (.cells #[u, v] e)).cell? ⟨w.heap.size, 1, none⟩ = _; go_simp
theorem one2 {u v : Value} (h : u.oneCell' = true) (h' : v.oneCell' = true) : ∀ x ∈ [u, v], x.oneCell' = true := fun x hx => by
  rcases List.mem_cons.1 hx with rfl | hx
  · exact h
  · rw [List.mem_singleton] at hx; rw [hx]; exact h'
theorem KB.back {D : Nat → Prop} {X Y : World} (h : KB D X Y) (hD : ∀ b, D b → b < X.heap.size) : Y.heap.size ≥ X.heap.size := h.size
theorem one1 {v : Value} (h : v.oneCell' = true) : ∀ u ∈ [v], u.oneCell' = true := fun u hu => by rw [List.mem_singleton] at hu; rw [hu]; exact h
theorem grown_below {W Wc W4 : World} {o : Obj} (h : Below W.heap.size W Wc) (hg : (Wc.alloc o).grownBy W4 (some W.heap.size)) : Below W.heap.size W W4 :=
  Below.grown (h.trans (show Below W.heap.size Wc (Wc.alloc o) from (Below.refl _ _).alloc h.size _)) hg (by have := h.size; simp; omega) (fun k hk => by cases hk; exact Nat.le_refl _)
def v4i (n0 n1 n2 : Int) (s : Value) (i : Nat) : Value := if i = 0 then .int .i64 n0 else if i = 1 then .int .i64 n1 else if i = 2 then .int .i64 n2 else s
theorem v4i_row (w : World) (n0 n1 n2 : Int) (s : Value) : (w.alloc (.cells #[.int .i64 n0, .int .i64 n1, .int .i64 n2, s] 26)).rowIs w.heap.size 26 4 (v4i n0 n1 n2 s) :=
  World.rowIs_alloc w #[.int .i64 n0, .int .i64 n1, .int .i64 n2, s] 26 (v4i n0 n1 n2 s) (fun i hi => by match i, hi with | 0, _ => rfl | 1, _ => rfl | 2, _ => rfl | 3, _ => rfl)

end Go.Proofs.Ytjmhnmlmnlefaaa
