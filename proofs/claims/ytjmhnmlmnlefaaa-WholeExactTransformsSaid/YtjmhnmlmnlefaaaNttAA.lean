/-
  The error of a fold.
-/
import Derived.Test.YtjmhnmlmnlefaaaNttT
import Derived.Test.YtjmhnmlmnlefaaaNttZ
import Derived.Test.YtjmhnmlmnlefaaaNttV
namespace Go.Proofs.Ytjmhnmlmnlefaaa
open Go.RowKit Go.Lib
attribute [local irreducible] World.setCell
set_option linter.unusedSimpArgs false
set_option linter.unusedVariables false


theorem first_great (V : Nat → Int) (len : Nat) : ∃ m, m ≤ len ∧ (∀ i, i < m → -1048576 ≤ V i ∧ V i ≤ 1048576) ∧ (m < len → V m < -1048576 ∨ 1048576 < V m) := by
  induction len with
  | zero => exact ⟨0, Nat.le_refl _, fun i h => absurd h (Nat.not_lt_zero _), fun h => absurd h (Nat.lt_irrefl _)⟩
  | succ n ih =>
    obtain ⟨m, h1, h2, h3⟩ := ih
    by_cases q : m < n
    · exact ⟨m, by omega, h2, fun _ => h3 q⟩
    · have e : m = n := by omega
      subst e
      by_cases r : V m < -1048576 ∨ 1048576 < V m
      · exact ⟨m, by omega, h2, fun _ => r⟩
      · refine ⟨m + 1, Nat.le_refl _, fun i hi => ?_, fun h => absurd h (Nat.lt_irrefl _)⟩
        by_cases z : i = m
        · subst z; omega
        · exact h2 i (by omega)
/-- What the error of a grid says of it. -/
structure Good (n0 n1 n2 : Int) (len : Nat) (V : Nat → Int) : Prop where
  r0 : rightB n0 = true
  r1 : rightB n1 = true
  r2 : rightB n2 = true
  hL : len = n0.toNat * n1.toNat * n2.toNat
  hb : len ≤ 262144
  hV : ∀ i, i < len → -1048576 ≤ V i ∧ V i ≤ 1048576
theorem right_nat {n : Int} (h : rightB n = true) : ((n.toNat : Nat) : Int) = n := Int.toNat_of_nonneg (by unfold rightB at h; simp only [Bool.and_eq_true, decide_eq_true_eq] at h; omega)
/-- Each grid has one error for the program and the document. -/
theorem grid_code (n0 n1 n2 : Int) (s : Value) (len : Nat) (V : Nat → Int) (w : World) (hR : Rd w s len (fun i => .int .i64 (V i))) (hl : len ≤ 17592186044416) :
    ∃ c : Int, (0 ≤ c ∧ c ≤ 4) ∧ (c = 0 → Good n0 n1 n2 len V) ∧ (∀ w', Below w.heap.size w w' → Calls Try.prog 37 #[.agg #[.int .i64 n0, .int .i64 n1, .int .i64 n2, s]] w' fun e w'' => e = .returned (.int .i64 c) ∧ Below w'.heap.size w' w'') ∧ (∀ w', Below w.heap.size w w' → Calls Try.prog 36 #[.agg #[.int .i64 n0, .int .i64 n1, .int .i64 n2, s]] w' fun e w'' => e = .returned (.int .i64 c) ∧ Below w'.heap.size w' w'') := by
  cases h : (rightB n0 && rightB n1 && rightB n2)
  · exact ⟨1, by omega, fun q => by omega, fun w' _ => counts_bad n0 n1 n2 s w' h, fun w' _ => rchk_bad n0 n1 n2 s w' h⟩
  · simp only [Bool.and_eq_true] at h
    obtain ⟨⟨h0, h1⟩, h2⟩ := h
    obtain ⟨m, hm, hlo, hbad⟩ := first_great V len
    obtain ⟨a, cap, rfl, hs⟩ := hR
    have e0 := right_nat h0; have e1 := right_nat h1; have e2 := right_nat h2
    have hc : ∀ w', Below w.heap.size w w' → 0 < len → ∃ b off, a = some ⟨b, off, none⟩ ∧ b < w'.heap.size ∧ ∀ i, i < len → w'.cell? ⟨b, off + i, none⟩ = some (.int .i64 (V i)) := by
      intro w' hb q
      obtain ⟨b, off, rfl, hl, hc⟩ := hs q
      exact ⟨b, off, rfl, Nat.lt_of_lt_of_le hl hb.size, fun i hi => (hb.cell (p := ⟨b, off + i, none⟩) hl).trans (hc i hi)⟩
    refine ⟨cerr (n0.toNat * n1.toNat * n2.toNat) len m, ?_, ?_, fun w' hb => ?_, fun w' hb => ?_⟩
    · unfold cerr; split <;> (try split) <;> (try split) <;> omega
    · intro q
      unfold cerr at q
      split at q
      · omega
      split at q
      · omega
      split at q
      · omega
      · exact ⟨h0, h1, h2, by omega, by omega, fun i hi => hlo i (by omega)⟩
    · have := counts_box n0.toNat n1.toNat n2.toNat len cap m a V w' (by rw [e0]; exact h0) (by rw [e1]; exact h1) (by rw [e2]; exact h2) hl (hc w' hb) hm hlo hbad
      rw [e0, e1, e2] at this
      exact this
    · have := rchk_box n0.toNat n1.toNat n2.toNat len cap m a V w' (by rw [e0]; exact h0) (by rw [e1]; exact h1) (by rw [e2]; exact h2) hl (hc w' hb) hm hlo hbad
      rw [e0, e1, e2] at this
      exact this
/-- The error of a fold of two grids. -/
def fcode (n0 n1 n2 m0 m1 m2 ca cb : Int) : Int := if least2 ca cb = 0 then (if n0 = m0 ∧ n1 = m1 ∧ n2 = m2 then 0 else 6) else least2 ca cb
structure FG (w : World) (n0 n1 n2 m0 m1 m2 : Int) (sa sb : Value) (X : World) : Prop where
  below : Below w.heap.size w X
  size : w.heap.size + 1 + 1 < X.heap.size
  a0 : X.cell? ⟨w.heap.size, 0, none⟩ = some (.int .i64 n0)
  a1 : X.cell? ⟨w.heap.size, 1, none⟩ = some (.int .i64 n1)
  a2 : X.cell? ⟨w.heap.size, 2, none⟩ = some (.int .i64 n2)
  a3 : X.cell? ⟨w.heap.size, 3, none⟩ = some sa
  b0 : X.cell? ⟨w.heap.size + 1, 0, none⟩ = some (.int .i64 m0)
  b1 : X.cell? ⟨w.heap.size + 1, 1, none⟩ = some (.int .i64 m1)
  b2 : X.cell? ⟨w.heap.size + 1, 2, none⟩ = some (.int .i64 m2)
  b3 : X.cell? ⟨w.heap.size + 1, 3, none⟩ = some sb
  res : X.rowIs (w.heap.size + 1 + 1) 26 4 (fun i => if i = 3 then .slice none 0 0 else .int .i64 0)
theorem FG.step {w : World} {n0 n1 n2 m0 m1 m2 : Int} {sa sb : Value} {X Y : World} {B : Nat} (h : FG w n0 n1 n2 m0 m1 m2 sa sb X) (hb : Below B X Y) (hB : w.heap.size + 1 + 1 < B) : FG w n0 n1 n2 m0 m1 m2 sa sb Y :=
  ⟨h.below.trans (hb.mono (by omega)), Nat.lt_of_lt_of_le h.size hb.size, (hb.cell (p := ⟨w.heap.size, 0, none⟩) (by simp; omega)).trans h.a0, (hb.cell (p := ⟨w.heap.size, 1, none⟩) (by simp; omega)).trans h.a1, (hb.cell (p := ⟨w.heap.size, 2, none⟩) (by simp; omega)).trans h.a2, (hb.cell (p := ⟨w.heap.size, 3, none⟩) (by simp; omega)).trans h.a3, (hb.cell (p := ⟨w.heap.size + 1, 0, none⟩) (by simp; omega)).trans h.b0, (hb.cell (p := ⟨w.heap.size + 1, 1, none⟩) (by simp; omega)).trans h.b1, (hb.cell (p := ⟨w.heap.size + 1, 2, none⟩) (by simp; omega)).trans h.b2, (hb.cell (p := ⟨w.heap.size + 1, 3, none⟩) (by simp; omega)).trans h.b3, h.res.of_block (hb.block _ (by omega))⟩
set_option maxHeartbeats 4000000 in
theorem Fold_bad (n0 n1 n2 m0 m1 m2 ca cb : Int) (sa sb : Value) (w : World) (hf : fcode n0 n1 n2 m0 m1 m2 ca cb ≠ 0)
    (hA : ∀ w', Below w.heap.size w w' → Calls Try.prog 37 #[.agg #[.int .i64 n0, .int .i64 n1, .int .i64 n2, sa]] w' fun e w'' => e = .returned (.int .i64 ca) ∧ Below w'.heap.size w' w'')
    (hB : ∀ w', Below w.heap.size w w' → Calls Try.prog 37 #[.agg #[.int .i64 m0, .int .i64 m1, .int .i64 m2, sb]] w' fun e w'' => e = .returned (.int .i64 cb) ∧ Below w'.heap.size w' w'') :
    Calls Try.prog 15 #[.agg #[.int .i64 n0, .int .i64 n1, .int .i64 n2, sa], .agg #[.int .i64 m0, .int .i64 m1, .int .i64 m2, sb]] w fun e w' => e = .returned (.tuple #[.agg #[.int .i64 0, .int .i64 0, .int .i64 0, .slice none 0 0], .int .i64 (fcode n0 n1 n2 m0 m1 m2 ca cb)]) ∧ Below w.heap.size w w' := by
  have CA := Lib.hid hA; have CB := Lib.hid hB; clear hA hB
  obtain ⟨f, ef⟩ : ∃ f, f = fcode n0 n1 n2 m0 m1 m2 ca cb := ⟨_, rfl⟩
  rw [← ef] at hf ⊢
  have HF := Lib.hid (And.intro ef hf)
  clear hf ef
  go_enter Try.func15, Try.ntmps15
  go_wp2
  refine wp_abs (FG w n0 n1 n2 m0 m1 m2 sa sb) ⟨((((Below.refl _ _).alloc (Nat.le_refl _) _).alloc (by simp) _).alloc (by simp; omega) _), by simp, by go_simp, by go_simp, by go_simp, by go_simp, by go_simp, by go_simp, by go_simp, by go_simp, ?_⟩ ?_
  · have := World.rowIs_alloc ((w.alloc (.cells #[.int .i64 n0, .int .i64 n1, .int .i64 n2, sa] 26)).alloc (.cells #[.int .i64 m0, .int .i64 m1, .int .i64 m2, sb] 26)) #[.int .i64 0, .int .i64 0, .int .i64 0, .slice none 0 0] 26 (fun i => if i = 3 then .slice none 0 0 else .int .i64 0) (fun i hi => by
      match i, hi with
      | 0, _ => rfl
      | 1, _ => rfl
      | 2, _ => rfl
      | 3, _ => rfl)
    simp only [World.size_alloc] at this
    exact this
  intro W1 hfs
  have FS1 := Lib.hid hfs
  obtain ⟨hB1, hs1, a0, a1, a2, a3, b0, b1, b2, b3, hres⟩ := hfs
  have HB1 := Lib.hid hB1
  have l0 : w.heap.size < W1.heap.size := by omega
  have l1 : w.heap.size + 1 < W1.heap.size := by omega
  clear hres hB1
  refine region_all (by kernel_rfl) (by kernel_rfl) ?_
  repeat (go_big_quiet_step ((go_at_call 37; first | with_reducible exact held_of _ (Nat.le_refl _) (CA.out _ (HB1.out.trans ((BelowW.below _).mono HB1.out.size))) | with_reducible exact held_of _ (Nat.le_refl _) (CB.out _ (HB1.out.trans ((BelowW.below _).mono HB1.out.size))))))
  refine wpQuiet_nil ?_
  rintro w2 ⟨⟨w0, hb⟩, rfl⟩
  have FS2 := Lib.hid (FS1.out.step hb (by omega))
  obtain ⟨hB1, hs1, a0, a1, a2, a3, b0, b1, b2, b3, hres⟩ := FS2.out
  have HB2 := Lib.hid hB1
  have r0 : w2.cell? ⟨w.heap.size + 1 + 1, 0, none⟩ = some (.int .i64 0) := hres.cell (i := 0) (by omega)
  have r1 : w2.cell? ⟨w.heap.size + 1 + 1, 1, none⟩ = some (.int .i64 0) := hres.cell (i := 1) (by omega)
  have r2 : w2.cell? ⟨w.heap.size + 1 + 1, 2, none⟩ = some (.int .i64 0) := hres.cell (i := 2) (by omega)
  have r3 : w2.cell? ⟨w.heap.size + 1 + 1, 3, none⟩ = some (.slice none 0 0) := hres.cell (i := 3) (by omega)
  have f0 := hres.frozen 0; have f1 := hres.frozen 1; have f2 := hres.frozen 2; have f3 := hres.frozen 3
  clear hres hB1 hb FS1 HB1 l0 l1 CA CB FS2
  have l0 : w.heap.size < w2.heap.size := by omega
  have l1 : w.heap.size + 1 < w2.heap.size := by omega
  by_cases ha : ca = 0
  · subst ha
    have ec : least2 0 cb = cb := by unfold least2; rw [if_pos (.inl rfl)]
    by_cases hb : cb = 0
    · subst hb
      have hn : ¬ (n0 = m0 ∧ n1 = m1 ∧ n2 = m2) := fun q => HF.out.2 (by rw [HF.out.1]; unfold fcode; rw [if_pos (by rw [ec]), if_pos q])
      have hf6 : f = 6 := by rw [HF.out.1]; unfold fcode; rw [if_pos (by rw [ec]), if_neg hn]
      have hq : (n0 == m0 && (n1 == m1 && n2 == m2)) = false := by
        rw [Bool.eq_false_iff]; intro q; simp only [Bool.and_eq_true, beq_iff_eq] at q; exact hn q
      subst hf6
      clear hn ec
      go_wp2
      refine bodyPost_ret (v := .tuple #[.agg #[.int .i64 0, .int .i64 0, .int .i64 0, .slice none 0 0], .int .i64 6]) (by simp [results, Try.results15, go_sem, *]) rfl ⟨rfl, HB2.out.trans (by repeat (first | assumption | exact Below.refl _ _ | refine below_drewN ?_ _ | refine Below.alloc ?_ (by first | (simp; done) | (simp; omega) | omega) _ | refine Below.setCell ?_ (by first | (simp; done) | (simp; omega) | omega) _))⟩
    · have hb' : (cb == 0) = false := by rw [beq_eq_false_iff_ne]; exact hb
      have hf6 : f = cb := by rw [HF.out.1]; unfold fcode; rw [ec, if_neg hb]
      subst hf6
      clear ec
      go_wp2
      refine bodyPost_ret (v := .tuple #[.agg #[.int .i64 0, .int .i64 0, .int .i64 0, .slice none 0 0], .int .i64 f]) (by simp [results, Try.results15, go_sem, *]) rfl ⟨rfl, HB2.out.trans (by repeat (first | assumption | exact Below.refl _ _ | refine below_drewN ?_ _ | refine Below.alloc ?_ (by first | (simp; done) | (simp; omega) | omega) _ | refine Below.setCell ?_ (by first | (simp; done) | (simp; omega) | omega) _))⟩
  · have ha' : (ca == 0) = false := by rw [beq_eq_false_iff_ne]; exact ha
    by_cases hb : cb ≠ 0 ∧ cb < ca
    · have ec : least2 ca cb = cb := by unfold least2; rw [if_pos (.inr hb)]
      have hf6 : f = cb := by rw [HF.out.1]; unfold fcode; rw [ec, if_neg hb.1]
      obtain ⟨hb1, hb2⟩ := hb
      have hb' : (cb == 0) = false := by rw [beq_eq_false_iff_ne]; exact hb1
      subst hf6
      clear ec
      go_wp2
      refine bodyPost_ret (v := .tuple #[.agg #[.int .i64 0, .int .i64 0, .int .i64 0, .slice none 0 0], .int .i64 f]) (by simp [results, Try.results15, go_sem, *]) rfl ⟨rfl, HB2.out.trans (by repeat (first | assumption | exact Below.refl _ _ | refine below_drewN ?_ _ | refine Below.alloc ?_ (by first | (simp; done) | (simp; omega) | omega) _ | refine Below.setCell ?_ (by first | (simp; done) | (simp; omega) | omega) _))⟩
    · have ec : least2 ca cb = ca := by unfold least2; rw [if_neg (by omega)]
      have hf6 : f = ca := by rw [HF.out.1]; unfold fcode; rw [ec, if_neg ha]
      subst hf6
      clear ec
      by_cases hb0 : cb = 0
      · subst hb0
        go_wp2
        refine bodyPost_ret (v := .tuple #[.agg #[.int .i64 0, .int .i64 0, .int .i64 0, .slice none 0 0], .int .i64 f]) (by simp [results, Try.results15, go_sem, *]) rfl ⟨rfl, HB2.out.trans (by repeat (first | assumption | exact Below.refl _ _ | refine below_drewN ?_ _ | refine Below.alloc ?_ (by first | (simp; done) | (simp; omega) | omega) _ | refine Below.setCell ?_ (by first | (simp; done) | (simp; omega) | omega) _))⟩
      · have hb' : (cb == 0) = false := by rw [beq_eq_false_iff_ne]; exact hb0
        have hb2 : ¬ cb < f := by omega
        go_wp2
        refine bodyPost_ret (v := .tuple #[.agg #[.int .i64 0, .int .i64 0, .int .i64 0, .slice none 0 0], .int .i64 f]) (by simp [results, Try.results15, go_sem, *]) rfl ⟨rfl, HB2.out.trans (by repeat (first | assumption | exact Below.refl _ _ | refine below_drewN ?_ _ | refine Below.alloc ?_ (by first | (simp; done) | (simp; omega) | omega) _ | refine Below.setCell ?_ (by first | (simp; done) | (simp; omega) | omega) _))⟩

end Go.Proofs.Ytjmhnmlmnlefaaa
