/-
  The document's Fold, refused.
-/
import Derived.Test.YtjmhnmlmnlefaaaNttAF
namespace Go.Proofs.Ytjmhnmlmnlefaaa
open Go.RowKit Go.Lib
attribute [local irreducible] World.setCell
set_option linter.unusedSimpArgs false
set_option linter.unusedVariables false


set_option maxHeartbeats 4000000 in
theorem DocFold_bad (n0 n1 n2 m0 m1 m2 ca cb : Int) (sa sb : Value) (w : World) (hf : fcode n0 n1 n2 m0 m1 m2 ca cb ≠ 0) (ha : 0 ≤ ca ∧ ca ≤ 4) (hb : 0 ≤ cb ∧ cb ≤ 4)
    (hA : ∀ w', Below w.heap.size w w' → Calls Try.prog 36 #[.agg #[.int .i64 n0, .int .i64 n1, .int .i64 n2, sa]] w' fun e w'' => e = .returned (.int .i64 ca) ∧ Below w'.heap.size w' w'')
    (hB : ∀ w', Below w.heap.size w w' → Calls Try.prog 36 #[.agg #[.int .i64 m0, .int .i64 m1, .int .i64 m2, sb]] w' fun e w'' => e = .returned (.int .i64 cb) ∧ Below w'.heap.size w' w'') :
    Calls Try.prog 16 #[.agg #[.int .i64 n0, .int .i64 n1, .int .i64 n2, sa], .agg #[.int .i64 m0, .int .i64 m1, .int .i64 m2, sb]] w fun e w' => e = .returned (.tuple #[.agg #[.int .i64 0, .int .i64 0, .int .i64 0, .slice none 0 0], .int .i64 (fcode n0 n1 n2 m0 m1 m2 ca cb)]) ∧ Below w.heap.size w w' := by
  have CA := Lib.hid hA; have CB := Lib.hid hB; clear hA hB
  have hl4 : 0 ≤ least2 ca cb ∧ least2 ca cb ≤ 4 := by unfold least2; split <;> omega
  obtain ⟨f, ef⟩ : ∃ f, f = fcode n0 n1 n2 m0 m1 m2 ca cb := ⟨_, rfl⟩
  rw [← ef] at hf ⊢
  unfold fcode at ef
  have HF := Lib.hid (And.intro hl4 (And.intro ef hf))
  clear hf ef ha hb hl4
  go_enter Try.func16, Try.ntmps16
  go_wp2
  refine wp_abs (FG w n0 n1 n2 m0 m1 m2 sa sb) ⟨((((Below.refl _ _).alloc (Nat.le_refl _) _).alloc (by simp) _).alloc (by simp; omega) _), by simp, by go_simp, by go_simp, by go_simp, by go_simp, by go_simp, by go_simp, by go_simp, by go_simp, ?_⟩ ?_
  · have := World.rowIs_alloc ((w.alloc (.cells #[.int .i64 n0, .int .i64 n1, .int .i64 n2, sa] 26)).alloc (.cells #[.int .i64 m0, .int .i64 m1, .int .i64 m2, sb] 26)) #[.int .i64 0, .int .i64 0, .int .i64 0, .slice none 0 0] 26 (fun i => if i = 3 then .slice none 0 0 else .int .i64 0) (fun i hi => by
      match i, hi with
      | 0, _ => rfl
      | 1, _ => rfl
      | 2, _ => rfl
      | 3, _ => rfl)
    simp only [World.size_alloc] at this
    exact this
  intro W1 hfs
  have FS1 := Lib.hid hfs
  obtain ⟨hB1, hs1, a0, a1, a2, a3, b0, b1, b2, b3, hres⟩ := hfs
  have HB1 := Lib.hid hB1
  have l0 : w.heap.size < W1.heap.size := by omega
  have l1 : w.heap.size + 1 < W1.heap.size := by omega
  clear hres hB1
  refine region_head 4 (by kernel_rfl) (by kernel_rfl) ?_
  simp only [List.take_succ_cons, List.take_zero, List.drop_succ_cons, List.drop_zero]
  repeat (go_big_quiet_step ((go_at_call 36; first | with_reducible exact held_of _ (Nat.le_refl _) (CA.out _ (HB1.out.trans ((BelowW.below _).mono HB1.out.size))) | with_reducible exact held_of _ (Nat.le_refl _) (CB.out _ (HB1.out.trans ((BelowW.below _).mono HB1.out.size))))))
  refine wpQuiet_nil ?_
  rintro w2 ⟨⟨w0, hb⟩, rfl⟩
  have FS2 := Lib.hid (FS1.out.step hb (by omega))
  clear hb FS1 HB1 l0 l1 CA CB a0 a1 a2 a3 b0 b1 b2 b3 hs1
  go_wp2_with fail
  refine (least_any ca cb _ _ _ (by go_simp) (by go_simp)).mono ?_
  rintro e w' ⟨rfl, rfl⟩
  obtain ⟨le, ele⟩ : ∃ e, e = least2 ca cb := ⟨_, rfl⟩
  have FS3 := Lib.hid (FS2.out.step (B := w2.heap.size) (Y := w2.alloc (.cells #[.int .i64 ca, .int .i64 cb] 3)) ((by repeat (first | assumption | exact Below.refl _ _ | refine below_drewN ?_ _ | refine Below.drew ?_ | refine Below.alloc ?_ (by first | (simp; done) | (simp; omega) | omega) _ | refine Below.setCell ?_ (by first | (simp; done) | (simp; omega) | omega) _))) FS2.out.size)
  clear FS2
  obtain ⟨W3, eW3⟩ : ∃ X, X = w2.alloc (.cells #[.int .i64 ca, .int .i64 cb] 3) := ⟨_, rfl⟩
  rw [← ele] at HF ⊢
  rw [← eW3] at FS3 ⊢
  clear ele
  obtain ⟨hB1, hs1, a0, a1, a2, a3, b0, b1, b2, b3, hres⟩ := FS3.out
  have HB2 := Lib.hid hB1
  have r0 : W3.cell? ⟨w.heap.size + 1 + 1, 0, none⟩ = some (.int .i64 0) := hres.cell (i := 0) (by omega)
  have r1 : W3.cell? ⟨w.heap.size + 1 + 1, 1, none⟩ = some (.int .i64 0) := hres.cell (i := 1) (by omega)
  have r2 : W3.cell? ⟨w.heap.size + 1 + 1, 2, none⟩ = some (.int .i64 0) := hres.cell (i := 2) (by omega)
  have r3 : W3.cell? ⟨w.heap.size + 1 + 1, 3, none⟩ = some (.slice none 0 0) := hres.cell (i := 3) (by omega)
  have f0 := hres.frozen 0; have f1 := hres.frozen 1; have f2 := hres.frozen 2; have f3 := hres.frozen 3
  clear hres hB1 FS3 eW3
  by_cases hn : n0 = m0 ∧ n1 = m1 ∧ n2 = m2
  · have hq : (n0 == m0 && (n1 == m1 && n2 == m2)) = true := by
      simp only [Bool.and_eq_true, beq_iff_eq]; exact hn
    have hf6 : f = le := by
      have h := HF.out.2.1
      by_cases z : le = 0
      · rw [if_pos z, if_pos hn] at h; exact absurd h HF.out.2.2
      · rw [if_neg z] at h; exact h
    have hz : (f != 0) = true := by rw [bne_iff_ne]; exact HF.out.2.2
    subst hf6
    clear hn
    go_wp2
    refine bodyPost_ret (v := .tuple #[.agg #[.int .i64 0, .int .i64 0, .int .i64 0, .slice none 0 0], .int .i64 f]) (by simp [results, Try.results16, go_sem, *]) rfl ⟨rfl, HB2.out.trans (by repeat (first | assumption | exact Below.refl _ _ | refine below_drewN ?_ _ | refine Below.drew ?_ | refine Below.alloc ?_ (by first | (simp; done) | (simp; omega) | omega) _ | refine Below.setCell ?_ (by first | (simp; done) | (simp; omega) | omega) _))⟩
  · have hq : (n0 == m0 && (n1 == m1 && n2 == m2)) = false := by
      rw [Bool.eq_false_iff]; intro q; simp only [Bool.and_eq_true, beq_iff_eq] at q; exact hn q
    have hf6 : least2 le 6 = f := by
      have h := HF.out.2.1
      have k := HF.out.1
      unfold least2
      by_cases z : le = 0
      · rw [if_pos z, if_neg hn] at h; rw [if_pos (.inl z), h]
      · rw [if_neg z] at h; rw [if_neg (by omega), h]
    have hz : (f != 0) = true := by rw [bne_iff_ne]; exact HF.out.2.2
    clear hn
    go_wp2_with fail
    refine (least_any le 6 _ _ _ (by go_simp) (by go_simp)).mono ?_
    rintro e w' ⟨rfl, rfl⟩
    rw [hf6]
    clear hf6
    go_wp2
    refine bodyPost_ret (v := .tuple #[.agg #[.int .i64 0, .int .i64 0, .int .i64 0, .slice none 0 0], .int .i64 f]) (by simp [results, Try.results16, go_sem, *]) rfl ⟨rfl, HB2.out.trans (by repeat (first | assumption | exact Below.refl _ _ | refine below_drewN ?_ _ | refine Below.drew ?_ | refine Below.alloc ?_ (by first | (simp; done) | (simp; omega) | omega) _ | refine Below.setCell ?_ (by first | (simp; done) | (simp; omega) | omega) _))⟩

/-- What a fold that is not refused gives. -/
def Folded (F : FuncId) (n0 n1 n2 : Int) (sa sb : Value) (L : Nat) (Z : Nat → Int) (w : World) : Prop :=
  Calls Try.prog F #[.agg #[.int .i64 n0, .int .i64 n1, .int .i64 n2, sa], .agg #[.int .i64 n0, .int .i64 n1, .int .i64 n2, sb]] w fun e w' => (∃ g, e = .returned (.agg #[.int .i64 n0, .int .i64 n1, .int .i64 n2, .slice (some ⟨g, 0, none⟩) L L]) ∧ w.heap.size ≤ g ∧ w'.rowIs g 3 L (fun i => .int .i64 (Z i))) ∧ Below w.heap.size w w'
set_option maxHeartbeats 4000000 in
theorem DocFold_ok (n0 n1 n2 : Int) (sa sb : Value) (L : Nat) (Z : Nat → Int) (w : World)
    (hA : ∀ w', Below w.heap.size w w' → Calls Try.prog 36 #[.agg #[.int .i64 n0, .int .i64 n1, .int .i64 n2, sa]] w' fun e w'' => e = .returned (.int .i64 0) ∧ Below w'.heap.size w' w'')
    (hB : ∀ w', Below w.heap.size w w' → Calls Try.prog 36 #[.agg #[.int .i64 n0, .int .i64 n1, .int .i64 n2, sb]] w' fun e w'' => e = .returned (.int .i64 0) ∧ Below w'.heap.size w' w'')
    (hFo : ∀ w', Below w.heap.size w w' → Folded 43 n0 n1 n2 sa sb L Z w') :
    Calls Try.prog 16 #[.agg #[.int .i64 n0, .int .i64 n1, .int .i64 n2, sa], .agg #[.int .i64 n0, .int .i64 n1, .int .i64 n2, sb]] w fun e w' => (∃ g, e = .returned (.tuple #[.agg #[.int .i64 n0, .int .i64 n1, .int .i64 n2, .slice (some ⟨g, 0, none⟩) L L], .int .i64 0]) ∧ w.heap.size ≤ g ∧ w'.rowIs g 3 L (fun i => .int .i64 (Z i))) ∧ Below w.heap.size w w' := by
  obtain ⟨m0, e0⟩ : ∃ m, m = n0 := ⟨_, rfl⟩
  obtain ⟨m1, e1⟩ : ∃ m, m = n1 := ⟨_, rfl⟩
  obtain ⟨m2, e2⟩ : ∃ m, m = n2 := ⟨_, rfl⟩
  obtain ⟨ca, ea⟩ : ∃ m : Int, m = 0 := ⟨_, rfl⟩
  obtain ⟨cb, eb⟩ : ∃ m : Int, m = 0 := ⟨_, rfl⟩
  have CA := Lib.hid (show ∀ w', Below w.heap.size w w' → Calls Try.prog 36 #[.agg #[.int .i64 n0, .int .i64 n1, .int .i64 n2, sa]] w' fun e w'' => e = .returned (.int .i64 ca) ∧ Below w'.heap.size w' w'' by rw [ea]; exact hA)
  have CB := Lib.hid (show ∀ w', Below w.heap.size w w' → Calls Try.prog 36 #[.agg #[.int .i64 m0, .int .i64 m1, .int .i64 m2, sb]] w' fun e w'' => e = .returned (.int .i64 cb) ∧ Below w'.heap.size w' w'' by rw [eb, e0, e1, e2]; exact hB)
  have HFO := Lib.hid hFo
  have HEQ := Lib.hid (And.intro e0.symm (And.intro e1.symm e2.symm))
  have HF := Lib.hid (show least2 ca cb = 0 by rw [ea, eb]; decide)
  rw [show Value.agg #[.int .i64 n0, .int .i64 n1, .int .i64 n2, sb] = Value.agg #[.int .i64 m0, .int .i64 m1, .int .i64 m2, sb] by rw [e0, e1, e2]]
  clear hA hB hFo e0 e1 e2 ea eb
  go_enter Try.func16, Try.ntmps16
  go_wp2
  refine wp_abs (FG w n0 n1 n2 m0 m1 m2 sa sb) ⟨((((Below.refl _ _).alloc (Nat.le_refl _) _).alloc (by simp) _).alloc (by simp; omega) _), by simp, by go_simp, by go_simp, by go_simp, by go_simp, by go_simp, by go_simp, by go_simp, by go_simp, ?_⟩ ?_
  · have := World.rowIs_alloc ((w.alloc (.cells #[.int .i64 n0, .int .i64 n1, .int .i64 n2, sa] 26)).alloc (.cells #[.int .i64 m0, .int .i64 m1, .int .i64 m2, sb] 26)) #[.int .i64 0, .int .i64 0, .int .i64 0, .slice none 0 0] 26 (fun i => if i = 3 then .slice none 0 0 else .int .i64 0) (fun i hi => by
      match i, hi with
      | 0, _ => rfl
      | 1, _ => rfl
      | 2, _ => rfl
      | 3, _ => rfl)
    simp only [World.size_alloc] at this
    exact this
  intro W1 hfs
  have FS1 := Lib.hid hfs
  obtain ⟨hB1, hs1, a0, a1, a2, a3, b0, b1, b2, b3, hres⟩ := hfs
  have HB1 := Lib.hid hB1
  have l0 : w.heap.size < W1.heap.size := by omega
  have l1 : w.heap.size + 1 < W1.heap.size := by omega
  clear hres hB1
  refine region_head 4 (by kernel_rfl) (by kernel_rfl) ?_
  simp only [List.take_succ_cons, List.take_zero, List.drop_succ_cons, List.drop_zero]
  repeat (go_big_quiet_step ((go_at_call 36; first | with_reducible exact held_of _ (Nat.le_refl _) (CA.out _ (HB1.out.trans ((BelowW.below _).mono HB1.out.size))) | with_reducible exact held_of _ (Nat.le_refl _) (CB.out _ (HB1.out.trans ((BelowW.below _).mono HB1.out.size))))))
  refine wpQuiet_nil ?_
  rintro w2 ⟨⟨w0, hb⟩, rfl⟩
  have FS2 := Lib.hid (FS1.out.step hb (by omega))
  clear hb FS1 HB1 l0 l1 CA CB a0 a1 a2 a3 b0 b1 b2 b3 hs1
  go_wp2_with fail
  refine (least_any ca cb _ _ _ (by go_simp) (by go_simp)).mono ?_
  rintro e w' ⟨rfl, rfl⟩
  obtain ⟨le, ele⟩ : ∃ e, e = least2 ca cb := ⟨_, rfl⟩
  have FS3 := Lib.hid (FS2.out.step (B := w2.heap.size) (Y := w2.alloc (.cells #[.int .i64 ca, .int .i64 cb] 3)) ((by repeat (first | assumption | exact Below.refl _ _ | refine below_drewN ?_ _ | refine Below.drew ?_ | refine Below.alloc ?_ (by first | (simp; done) | (simp; omega) | omega) _ | refine Below.setCell ?_ (by first | (simp; done) | (simp; omega) | omega) _))) FS2.out.size)
  clear FS2
  obtain ⟨W3, eW3⟩ : ∃ X, X = w2.alloc (.cells #[.int .i64 ca, .int .i64 cb] 3) := ⟨_, rfl⟩
  rw [← ele] at HF ⊢
  rw [← eW3] at FS3 ⊢
  clear ele
  obtain ⟨hB1, hs1, a0, a1, a2, a3, b0, b1, b2, b3, hres⟩ := FS3.out
  have HB2 := Lib.hid hB1
  have r0 : W3.cell? ⟨w.heap.size + 1 + 1, 0, none⟩ = some (.int .i64 0) := hres.cell (i := 0) (by omega)
  have r1 : W3.cell? ⟨w.heap.size + 1 + 1, 1, none⟩ = some (.int .i64 0) := hres.cell (i := 1) (by omega)
  have r2 : W3.cell? ⟨w.heap.size + 1 + 1, 2, none⟩ = some (.int .i64 0) := hres.cell (i := 2) (by omega)
  have r3 : W3.cell? ⟨w.heap.size + 1 + 1, 3, none⟩ = some (.slice none 0 0) := hres.cell (i := 3) (by omega)
  have f0 := hres.frozen 0; have f1 := hres.frozen 1; have f2 := hres.frozen 2; have f3 := hres.frozen 3
  clear hres hB1 FS3 eW3
  have hq : (n0 == m0 && (n1 == m1 && n2 == m2)) = true := by
    simp only [Bool.and_eq_true, beq_iff_eq]; exact HEQ.out
  have hle := HF.out
  obtain ⟨e0, e1, e2⟩ := HEQ.out
  subst e0 e1 e2 hle
  clear HF HEQ
  go_wp2_with fail
  refine (HFO.out _ HB2.out).mono ?_
  rintro e w4 ⟨⟨g, rfl, hg, hrow⟩, hb4⟩
  have HB4 := Lib.hid (HB2.out.trans (hb4.mono HB2.out.size))
  have hgl : w.heap.size ≤ g := Nat.le_trans HB2.out.size hg
  have HR := Lib.hid hrow
  have lr : w.heap.size + 1 + 1 < W3.heap.size := hs1
  have hgr : ¬ g = w.heap.size + 1 + 1 := by omega
  have z0 : w4.cell? ⟨w.heap.size + 1 + 1, 0, none⟩ = some (.int .i64 0) := (hb4.cell (p := ⟨w.heap.size + 1 + 1, 0, none⟩) lr).trans r0
  have z1 : w4.cell? ⟨w.heap.size + 1 + 1, 1, none⟩ = some (.int .i64 0) := (hb4.cell (p := ⟨w.heap.size + 1 + 1, 1, none⟩) lr).trans r1
  have z2 : w4.cell? ⟨w.heap.size + 1 + 1, 2, none⟩ = some (.int .i64 0) := (hb4.cell (p := ⟨w.heap.size + 1 + 1, 2, none⟩) lr).trans r2
  have z3 : w4.cell? ⟨w.heap.size + 1 + 1, 3, none⟩ = some (.slice none 0 0) := (hb4.cell (p := ⟨w.heap.size + 1 + 1, 3, none⟩) lr).trans r3
  have y0 : w4.frozen? ⟨w.heap.size + 1 + 1, 0, none⟩ = false := (hb4.frozen (p := ⟨w.heap.size + 1 + 1, 0, none⟩) lr).trans f0
  have y1 : w4.frozen? ⟨w.heap.size + 1 + 1, 1, none⟩ = false := (hb4.frozen (p := ⟨w.heap.size + 1 + 1, 1, none⟩) lr).trans f1
  have y2 : w4.frozen? ⟨w.heap.size + 1 + 1, 2, none⟩ = false := (hb4.frozen (p := ⟨w.heap.size + 1 + 1, 2, none⟩) lr).trans f2
  have y3 : w4.frozen? ⟨w.heap.size + 1 + 1, 3, none⟩ = false := (hb4.frozen (p := ⟨w.heap.size + 1 + 1, 3, none⟩) lr).trans f3
  clear r0 r1 r2 r3 f0 f1 f2 f3 hb4 hrow hg a0 a1 a2 a3 b0 b1 b2 b3 HB2
  go_wp2
  refine bodyPost_ret (v := .tuple #[.agg #[.int .i64 n0, .int .i64 n1, .int .i64 n2, .slice (some ⟨g, 0, none⟩) L L], .int .i64 0]) (by simp [results, Try.results16, go_sem, *]) rfl ⟨⟨g, rfl, hgl, ?_⟩, ?_⟩
  · exact (((HR.out.setOther (by first | (simp; done) | (simp; omega)) _).setOther (by first | (simp; done) | (simp; omega)) _).setOther (by first | (simp; done) | (simp; omega)) _).setOther (by first | (simp; done) | (simp; omega)) _
  · exact (((HB4.out.setCell (by simp; omega) _).setCell (by simp; omega) _).setCell (by simp; omega) _).setCell (by simp; omega) _

end Go.Proofs.Ytjmhnmlmnlefaaa
