/-
  Fold.
-/
import Derived.Test.YtjmhnmlmnlefaaaNttQ
import Derived.Deep.RegionHeld3
namespace Go.Proofs.Ytjmhnmlmnlefaaa
open Go.RowKit Go.Lib
attribute [local irreducible] World.setCell dft idft mix alongF sm pw iF fwd foldZ
set_option linter.unusedSimpArgs false
set_option linter.unusedVariables false

/-- A walk's world forgotten but for what S says of it. -/
theorem wp_abs {P : Program} {c : Code} {Q : Exit → Act → World → Prop} {a : Act} {w : World} (S : World → Prop) (h : S w) (k : ∀ w', S w' → c.wp P Q a w') : c.wp P Q a w := k w h
/-- A world that keeps all that lay in Wc. -/
theorem sb_of {Wc w' : World} (h : Below Wc.heap.size Wc w') : Below Wc.heap.size Wc w' ∧ ∀ b o, b < Wc.heap.size → w'.cell? ⟨b, o, none⟩ = Wc.cell? ⟨b, o, none⟩ := ⟨h, fun b o hb => h.cell (p := ⟨b, o, none⟩) hb⟩
theorem sb_alloc {Wc w' : World} (h : Below Wc.heap.size Wc w') (o : Obj) : Below Wc.heap.size Wc (w'.alloc o) ∧ ∀ b o', b < Wc.heap.size → (w'.alloc o).cell? ⟨b, o', none⟩ = Wc.cell? ⟨b, o', none⟩ := sb_of (h.alloc h.size o)
theorem sb_set {Wc w' : World} (h : Below Wc.heap.size Wc w') (p : Addr) (v : Value) (hp : Wc.heap.size ≤ p.block) : Below Wc.heap.size Wc (w'.setCell p v) ∧ ∀ b o', b < Wc.heap.size → (w'.setCell p v).cell? ⟨b, o', none⟩ = Wc.cell? ⟨b, o', none⟩ := sb_of (h.setCell hp v)
theorem sb_call {Wc w' w'' : World} (h : Below Wc.heap.size Wc w') (hb : Below w'.heap.size w' w'') : Below Wc.heap.size Wc w'' ∧ ∀ b o, b < Wc.heap.size → w''.cell? ⟨b, o, none⟩ = Wc.cell? ⟨b, o, none⟩ := sb_of (h.trans (hb.mono h.size))

theorem BelowW.below {B : Nat} {W : World} (x : BelowW B W) : Below B W x.1 := x.2
theorem counts_ok {n0 n1 n2 L : Nat} (hr : rightB n0 = true ∧ rightB n1 = true ∧ rightB n2 = true) (hL : L = n0 * n1 * n2) (hb : L ≤ 262144) (b off cap : Nat) (V : Nat → Int) (w : World) (hl : b < w.heap.size) (hc : ∀ i, i < L → w.cell? ⟨b, off + i, none⟩ = some (.int .i64 (V i))) (hV : ∀ i, i < L → -1048576 ≤ V i ∧ V i ≤ 1048576) :
    Calls Try.prog 37 #[.agg #[.int .i64 n0, .int .i64 n1, .int .i64 n2, .slice (some ⟨b, off, none⟩) L cap]] w fun e w' => e = .returned (.int .i64 0) ∧ Below w.heap.size w w' := by
  have h := counts_box n0 n1 n2 L cap L (some ⟨b, off, none⟩) V w hr.1 hr.2.1 hr.2.2 (by omega) (fun _ => ⟨b, off, rfl, hl, hc⟩) (Nat.le_refl _) hV (fun h => absurd h (Nat.lt_irrefl _))
  rw [← hL] at h
  have e : cerr L L L = 0 := by unfold cerr; rw [if_neg (by omega), if_neg (by simp), if_neg (Nat.lt_irrefl _)]
  rw [e] at h
  exact h
structure FS (w : World) (n0 n1 n2 L ba oa ca bb ob cb : Nat) (X : World) : Prop where
  below : Below w.heap.size w X
  size : w.heap.size + 1 + 1 < X.heap.size
  a0 : X.cell? ⟨w.heap.size, 0, none⟩ = some (.int .i64 n0)
  a1 : X.cell? ⟨w.heap.size, 1, none⟩ = some (.int .i64 n1)
  a2 : X.cell? ⟨w.heap.size, 2, none⟩ = some (.int .i64 n2)
  a3 : X.cell? ⟨w.heap.size, 3, none⟩ = some (.slice (some ⟨ba, oa, none⟩) L ca)
  b0 : X.cell? ⟨w.heap.size + 1, 0, none⟩ = some (.int .i64 n0)
  b1 : X.cell? ⟨w.heap.size + 1, 1, none⟩ = some (.int .i64 n1)
  b2 : X.cell? ⟨w.heap.size + 1, 2, none⟩ = some (.int .i64 n2)
  b3 : X.cell? ⟨w.heap.size + 1, 3, none⟩ = some (.slice (some ⟨bb, ob, none⟩) L cb)
  res : X.rowIs (w.heap.size + 1 + 1) 26 4 (fun i => if i = 3 then .slice none 0 0 else .int .i64 0)
theorem FS.step {w : World} {n0 n1 n2 L ba oa ca bb ob cb : Nat} {X Y : World} {B : Nat} (h : FS w n0 n1 n2 L ba oa ca bb ob cb X) (hb : Below B X Y) (hB : w.heap.size + 1 + 1 < B) : FS w n0 n1 n2 L ba oa ca bb ob cb Y :=
  ⟨h.below.trans (hb.mono (by omega)), Nat.lt_of_lt_of_le h.size hb.size, (hb.cell (p := ⟨w.heap.size, 0, none⟩) (by simp; omega)).trans h.a0, (hb.cell (p := ⟨w.heap.size, 1, none⟩) (by simp; omega)).trans h.a1, (hb.cell (p := ⟨w.heap.size, 2, none⟩) (by simp; omega)).trans h.a2, (hb.cell (p := ⟨w.heap.size, 3, none⟩) (by simp; omega)).trans h.a3, (hb.cell (p := ⟨w.heap.size + 1, 0, none⟩) (by simp; omega)).trans h.b0, (hb.cell (p := ⟨w.heap.size + 1, 1, none⟩) (by simp; omega)).trans h.b1, (hb.cell (p := ⟨w.heap.size + 1, 2, none⟩) (by simp; omega)).trans h.b2, (hb.cell (p := ⟨w.heap.size + 1, 3, none⟩) (by simp; omega)).trans h.b3, h.res.of_block (hb.block _ (by omega))⟩
theorem info3' : (Try.prog.info? 3).map (fun i => (i.zero, i.size, i.bytes)) = some (some (.int .i64 0), 1, 8) := by kernel_rfl
theorem mk24 (n : Nat) (h : n ≤ 4194304) (w : World) : (Instr.makeSlice 24 (.int .i64 (n : Int)) (.int .i64 (n : Int))).run Try.prog w = .ok (.slice (some ⟨w.heap.size, 0, none⟩) n n) (w.alloc (.cells (madeCells #[.int .i64 0] n) 3)) :=
  run_make_row' 24 3 (.int .i64 0) 8 Try.underlying24 info3' rfl .i64 .i64 n (by omega) (by omega) w
def upZ (j : Nat) (f : Nat → Int) (i : Nat) : Value := if i < j then .int .i64 (f i) else .int .i64 0
theorem upZ_step {w : World} {g n j : Nat} {f : Nat → Int} (h : w.rowIs g 3 n (upZ j f)) (v : Value) (hv : v = .int .i64 (f j)) : (w.setCell ⟨g, j, none⟩ v).rowIs g 3 n (upZ (j + 1) f) :=
  (h.set j v).congr fun i _ => by
    unfold upZ
    by_cases e : i = j
    · subst e; rw [if_pos rfl, if_pos (by omega), hv]
    · rw [if_neg e]
      by_cases q : i < j
      · rw [if_pos q, if_pos (by omega)]
      · rw [if_neg q, if_neg (by omega)]
theorem iF_neg {t : Int} (h : t < 0) (h1 : -288230376151711744 ≤ t) : (((iF t).val : Nat) : Int) = t + 18446744069414584321 := by rw [iF_val]; omega
theorem iF_pos {t : Int} (h : 0 ≤ t) (h1 : t ≤ 288230376151711744) : (((iF t).val : Nat) : Int) = t := by rw [iF_val]; omega
theorem box_of {n0 n1 n2 L : Nat} (hr : rightB n0 = true ∧ rightB n1 = true ∧ rightB n2 = true) (hL : L = n0 * n1 * n2) (hb : L ≤ 262144) : Box n0 n1 n2 L := ⟨right_le hr.1, right_le hr.2.1, right_le hr.2.2, hL, hb⟩
set_option maxHeartbeats 8000000 in
set_option maxRecDepth 100000 in
theorem Fold_ok (n0 n1 n2 L ba oa ca bb ob cb : Nat) (V W : Nat → Int) (w : World) (hr : rightB n0 = true ∧ rightB n1 = true ∧ rightB n2 = true) (hL : L = n0 * n1 * n2) (hLb : L ≤ 262144) (hba : ba < w.heap.size) (hbb : bb < w.heap.size)
    (hV : ∀ i, i < L → w.cell? ⟨ba, oa + i, none⟩ = some (.int .i64 (V i))) (hVb : ∀ i, i < L → -1048576 ≤ V i ∧ V i ≤ 1048576) (hW : ∀ i, i < L → w.cell? ⟨bb, ob + i, none⟩ = some (.int .i64 (W i))) (hWb : ∀ i, i < L → -1048576 ≤ W i ∧ W i ≤ 1048576) :
    Calls Try.prog 15 #[.agg #[.int .i64 n0, .int .i64 n1, .int .i64 n2, .slice (some ⟨ba, oa, none⟩) L ca], .agg #[.int .i64 n0, .int .i64 n1, .int .i64 n2, .slice (some ⟨bb, ob, none⟩) L cb]] w fun e w' => (∃ g, e = .returned (.tuple #[.agg #[.int .i64 n0, .int .i64 n1, .int .i64 n2, .slice (some ⟨g, 0, none⟩) L L], .int .i64 0]) ∧ w.heap.size ≤ g ∧ w'.rowIs g 3 L (fun i => .int .i64 (foldZ n0 n1 n2 V W i))) ∧ Below w.heap.size w w' := by
  have HBX := Lib.hid (box_of hr hL hLb)
  have CA := Lib.hid (fun w' (hb : Below w.heap.size w w') => counts_ok hr hL hLb ba oa ca V w' (Nat.lt_of_lt_of_le hba hb.size) (fun i hi => (hb.cell (p := ⟨ba, oa + i, none⟩) hba).trans (hV i hi)) hVb)
  have CB := Lib.hid (fun w' (hb : Below w.heap.size w w') => counts_ok hr hL hLb bb ob cb W w' (Nat.lt_of_lt_of_le hbb hb.size) (fun i hi => (hb.cell (p := ⟨bb, ob + i, none⟩) hbb).trans (hW i hi)) hWb)
  have FA := Lib.hid (fun w' (hb : Below w.heap.size w w') => forward_any n0 n1 n2 L ba oa ca V w' (box_of hr hL hLb) (Nat.lt_of_lt_of_le hba hb.size) (fun i hi => (hb.cell (p := ⟨ba, oa + i, none⟩) hba).trans (hV i hi)) hVb)
  have FB := Lib.hid (fun w' (hb : Below w.heap.size w w') => forward_any n0 n1 n2 L bb ob cb W w' (box_of hr hL hLb) (Nat.lt_of_lt_of_le hbb hb.size) (fun i hi => (hb.cell (p := ⟨bb, ob + i, none⟩) hbb).trans (hW i hi)) hWb)
  have HVW := Lib.hid (And.intro hVb hWb)
  have hLi : (L : Int) ≤ 262144 := by omega
  have n1le := HBX.out.h1.2.2; have n2le := HBX.out.h2.2.2; have n0p := HBX.out.h0.1; have n1p := HBX.out.h1.1; have n2p := HBX.out.h2.1
  have hmk := mk24 L (by omega)
  have HMK := Lib.hid hmk
  clear hr hL hLb hV hW hVb hWb hba hbb hmk
  go_enter Try.func15, Try.ntmps15
  go_wp2
  refine wp_abs (FS w n0 n1 n2 L ba oa ca bb ob cb) ⟨((((Below.refl _ _).alloc (Nat.le_refl _) _).alloc (by simp) _).alloc (by simp; omega) _), by simp, by go_simp, by go_simp, by go_simp, by go_simp, by go_simp, by go_simp, by go_simp, by go_simp, ?_⟩ ?_
  · have := World.rowIs_alloc ((w.alloc (.cells #[.int .i64 n0, .int .i64 n1, .int .i64 n2, .slice (some ⟨ba, oa, none⟩) L ca] 26)).alloc (.cells #[.int .i64 n0, .int .i64 n1, .int .i64 n2, .slice (some ⟨bb, ob, none⟩) L cb] 26)) #[.int .i64 0, .int .i64 0, .int .i64 0, .slice none 0 0] 26 (fun i => if i = 3 then .slice none 0 0 else .int .i64 0) (fun i hi => by
      match i, hi with
      | 0, _ => rfl
      | 1, _ => rfl
      | 2, _ => rfl
      | 3, _ => rfl)
    simp only [World.size_alloc] at this
    exact this
  intro W1 hfs
  have FS1 := Lib.hid hfs
  obtain ⟨hB1, hs1, a0, a1, a2, a3, b0, b1, b2, b3, hres⟩ := hfs
  have HB1 := Lib.hid hB1
  have l0 : w.heap.size < W1.heap.size := by omega
  have l1 : w.heap.size + 1 < W1.heap.size := by omega
  clear hres hB1
  refine region_all (by kernel_rfl) (by kernel_rfl) ?_
  repeat (go_big_quiet_step ((go_at_call 37; first | with_reducible exact held_of _ (Nat.le_refl _) (CA.out _ (HB1.out.trans ((BelowW.below _).mono HB1.out.size))) | with_reducible exact held_of _ (Nat.le_refl _) (CB.out _ (HB1.out.trans ((BelowW.below _).mono HB1.out.size))))))
  refine wpQuiet_nil ?_
  rintro w2 ⟨⟨w0, hb⟩, rfl⟩
  have FS2 := Lib.hid (FS1.out.step hb (by omega))
  obtain ⟨hB1, hs1, a0, a1, a2, a3, b0, b1, b2, b3, hres⟩ := FS2.out
  have HB2 := Lib.hid hB1
  clear hres hB1 hb FS1 HB1 l0 l1 CA CB
  go_wp2
  have l0 : w.heap.size < w2.heap.size := by omega
  have l1 : w.heap.size + 1 < w2.heap.size := by omega
  have tok1 : True := trivial
  go_region_held3 (fun w' => Below w2.heap.size w2 w' ∧ ∀ b o, b < w2.heap.size → w'.cell? ⟨b, o, none⟩ = w2.cell? ⟨b, o, none⟩) ((first | assumption | exact ⟨by assumption, by assumption⟩ | exact sb_of (by (repeat (first | assumption | exact And.left (by assumption) | exact Below.refl _ _ | refine below_drewN ?_ _ | refine Below.setCell ?_ (by first | (simp; done) | omega | (simp; omega)) _ | refine Below.alloc ?_ (by first | (simp; done) | omega | (simp; omega)) _ | refine Below.drew ?_))))) (first | (go_at_call 38; have _t := tok1; refine (FA.out _ (by exact Below.trans HB2.out (Below.mono (B := w2.heap.size) (by (repeat (first | assumption | exact And.left (by assumption) | exact Below.refl _ _ | refine below_drewN ?_ _ | refine Below.setCell ?_ (by first | (simp; done) | omega | (simp; omega)) _ | refine Below.alloc ?_ (by first | (simp; done) | omega | (simp; omega)) _ | refine Below.drew ?_))) HB2.out.size))).mono ?_; rintro e wa ⟨⟨ga, rfl, hga, hra⟩, hba⟩; have hsa := sb_call (Wc := w2) (by (repeat (first | assumption | exact And.left (by assumption) | exact Below.refl _ _ | refine below_drewN ?_ _ | refine Below.setCell ?_ (by first | (simp; done) | omega | (simp; omega)) _ | refine Below.alloc ?_ (by first | (simp; done) | omega | (simp; omega)) _ | refine Below.drew ?_))) hba; have hla := hsa.1.size; have hka := hsa.2; clear tok1) | (go_at_call 38; refine (FB.out _ (by exact Below.trans HB2.out (Below.mono (B := w2.heap.size) (by (repeat (first | assumption | exact And.left (by assumption) | exact Below.refl _ _ | refine below_drewN ?_ _ | refine Below.setCell ?_ (by first | (simp; done) | omega | (simp; omega)) _ | refine Below.alloc ?_ (by first | (simp; done) | omega | (simp; omega)) _ | refine Below.drew ?_))) HB2.out.size))).mono ?_; rintro e wb ⟨⟨gb, rfl, hgb, hrb⟩, hbb⟩; have hsb := sb_call (Wc := w2) (by (repeat (first | assumption | exact And.left (by assumption) | exact Below.refl _ _ | refine below_drewN ?_ _ | refine Below.setCell ?_ (by first | (simp; done) | omega | (simp; omega)) _ | refine Below.alloc ?_ (by first | (simp; done) | omega | (simp; omega)) _ | refine Below.drew ?_))) hbb; have hlb := hsb.1.size; have hkb := hsb.2))
  have FS3 := Lib.hid (FS2.out.step hsb.1 (by omega))
  have HRA := Lib.hid (show wb.rowIs ga 41 L (fun i => wd (fwd n0 n1 n2 (fun i => iF (V i)) i)) from hra.of_block (hbb.block ga hra.lt))
  have HRB := Lib.hid hrb
  have hgab : ga < gb := Nat.lt_of_lt_of_le hra.lt hgb
  have hga2 : w2.heap.size ≤ ga := hga
  have hga3 : w.heap.size + 1 + 1 < ga := by omega
  obtain ⟨fx, efx⟩ : ∃ f, f = fwd n0 n1 n2 (fun i => iF (V i)) := ⟨_, rfl⟩
  obtain ⟨fy, efy⟩ : ∃ f, f = fwd n0 n1 n2 (fun i => iF (W i)) := ⟨_, rfl⟩
  rw [← efx] at HRA
  rw [← efy] at HRB
  have EFX := Lib.hid efx; have EFY := Lib.hid efy; clear efx efy
  clear hra hrb hba hbb hsa hsb hla hlb hka hkb hga hgb FA FB hs1 a0 a1 a2 a3 b0 b1 b2 b3 HB2 l0 l1 FS2 hga2
  simp only [Exit.then]
  go_wp2
  go_loopw [50] (fun i wr => ∃ j : Nat, j ≤ L ∧ i = .int .i64 j ∧ wr.rowIs ga 41 L (fun i => wd (if i < j then fx i * fy i else fx i)) ∧ wr.rowIs gb 41 L (fun i => wd (fy i)) ∧ FS w n0 n1 n2 L ba oa ca bb ob cb wr) (fun i _ => L - (RowKit.intOf i).toNat)
  case atStart => exact ⟨0, Nat.zero_le _, rfl, HRA.out.congr (fun i _ => by rw [if_neg (by omega)]), HRB.out, FS3.out⟩
  case round =>
    obtain ⟨j, hj, rfl, qa, qb, qf⟩ := hrel
    have hfx : wr.frozen? ⟨ga, j, none⟩ = false := qa.frozen j
    have QA := Lib.hid qa; have QB := Lib.hid qb; have QF := Lib.hid qf
    clear qa qb qf HRA HRB FS3
    by_cases hjL : j < L
    · have hcx : wr.cell? ⟨ga, j, none⟩ = some (wd (fx j)) := (QA.out.cell hjL).trans (by rw [if_neg (by omega)])
      have hcy : wr.cell? ⟨gb, j, none⟩ = some (wd (fy j)) := QB.out.cell hjL
      have hjl : (j : Int) < (L : Int) := by omega
      go_wp2
      refine region_headq 11 (by kernel_rfl) (by kernel_rfl) ?_
      simp only [List.take_succ_cons, List.take_zero, List.drop_succ_cons, List.drop_zero]
      repeat (go_big_quiet_step ((go_at_call 39; first | exact quiet_dr (mul_any _ _ _) ⟨_, rfl⟩ | exact quiet_dr2 (mul_any _ _ _) ⟨_, rfl⟩)))
      refine wpQuiet_nil ?_
      rintro _ ⟨nq, rfl⟩
      go_wp2
      go_roundw
      case rel =>
        refine ⟨j + 1, by omega, by go_num, ((rowIs_drewN QA.out _).set j _).congr (fun i _ => ?_), (rowIs_drewN QB.out _).setOther (by simp; omega) _, QF.out.step (B := ga) (Below.setCell (p := ⟨ga, j, none⟩) (below_drewN (Below.refl ga wr) nq) (Nat.le_refl _) _) hga3⟩
        by_cases q : i = j
        · subst q; rw [if_pos rfl, if_pos (by omega)]
        · rw [if_neg q]
          by_cases q2 : i < j
          · rw [if_pos q2, if_pos (by omega)]
          · rw [if_neg q2, if_neg (by omega)]
      case measure => simp [RowKit.intOf]; omega
    · have hjL' : j = L := by omega
      have HJ := Lib.hid (show wr.rowIs ga 41 L (fun i => wd (fx i * fy i)) from QA.out.congr (fun i hi => by rw [if_pos (by omega)]))
      clear QA QB hjL' hfx hgab
      obtain ⟨hB1, hs1, a0, a1, a2, a3, b0, b1, b2, b3, hres⟩ := QF.out
      clear hres hB1 b0 b1 b2 b3
      go_wp2
      refine wp_loop_rounds 4 ?_
      rw [rounds_succ]
      go_wp2_with fail
      refine (alongU0 n0 n1 n2 (n1 * n2) n0 L 1 ga 0 (fun i => fx i * fy i) _ n0p (HBX.out.h0.2.1) (Nat.mul_pos n1p n2p) rfl rfl n1le n2le (by rw [HBX.out.hL, Nat.one_mul, Nat.mul_assoc]) HBX.out.hb HJ.out.lt HJ.out).mono ?_
      rintro e we0 ⟨rfl, hrow, hbel⟩
      have QF := Lib.hid (QF.out.step (B := ga) hbel hga3)
      have HJ := Lib.hid (show we0.rowIs ga 41 L (fun i => wd ((alongF (idft n0) (n1 * n2) n0 (fun i => fx i * fy i)) i)) from hrow)
      clear hrow hbel a0 a1 a2 a3 hs1
      obtain ⟨hB1, hs1, a0, a1, a2, a3, b0, b1, b2, b3, hres⟩ := QF.out
      clear hres hB1 b0 b1 b2 b3
      go_wp2
      rw [rounds_succ]
      go_wp2_with fail
      refine (alongU1 n0 n1 n2 n2 n1 L n0 ga 0 (alongF (idft n0) (n1 * n2) n0 (fun i => fx i * fy i)) _ n1p (HBX.out.h1.2.1) (n2p) rfl rfl n1le n2le (by rw [HBX.out.hL, Nat.mul_assoc]) HBX.out.hb HJ.out.lt HJ.out).mono ?_
      rintro e we1 ⟨rfl, hrow, hbel⟩
      have QF := Lib.hid (QF.out.step (B := ga) hbel hga3)
      have HJ := Lib.hid (show we1.rowIs ga 41 L (fun i => wd ((alongF (idft n1) n2 n1 (alongF (idft n0) (n1 * n2) n0 (fun i => fx i * fy i))) i)) from hrow)
      clear hrow hbel a0 a1 a2 a3 hs1
      obtain ⟨hB1, hs1, a0, a1, a2, a3, b0, b1, b2, b3, hres⟩ := QF.out
      clear hres hB1 b0 b1 b2 b3
      go_wp2
      rw [rounds_succ]
      go_wp2_with fail
      refine (alongU2 n0 n1 n2 1 n2 L (n0 * n1) ga 0 (alongF (idft n1) n2 n1 (alongF (idft n0) (n1 * n2) n0 (fun i => fx i * fy i))) _ n2p (HBX.out.h2.2.1) (Nat.one_pos) rfl rfl n1le n2le (by rw [HBX.out.hL, Nat.mul_one]) HBX.out.hb HJ.out.lt HJ.out).mono ?_
      rintro e we2 ⟨rfl, hrow, hbel⟩
      have QF := Lib.hid (QF.out.step (B := ga) hbel hga3)
      have HJ := Lib.hid (show we2.rowIs ga 41 L (fun i => wd ((bwd n0 n1 n2 (fun i => fx i * fy i)) i)) from hrow)
      clear hrow hbel a0 a1 a2 a3 hs1
      obtain ⟨hB1, hs1, a0, a1, a2, a3, b0, b1, b2, b3, hres⟩ := QF.out
      clear hres hB1 b0 b1 b2 b3
      go_wp2
      rw [rounds_succ]
      have hmk := HMK.out
      have l0 : w.heap.size < we2.heap.size := by omega
      go_wp2
      go_region_held3 (fun w' => w'.cell? ⟨w.heap.size, 0, none⟩ = some (.int .i64 n0) ∧ w'.cell? ⟨w.heap.size, 1, none⟩ = some (.int .i64 n1) ∧ w'.cell? ⟨w.heap.size, 2, none⟩ = some (.int .i64 n2)) ((go_split_ands; (repeat' apply And.intro) <;> (first | assumption | (go_simp; done)))) (fail)
      · have hbz : Below we2.heap.size we2 ((we2.alloc (.cells (madeCells #[.int .i64 0] L) 3)).alloc (.cells #[.int .i64 n0, .int .i64 n1, .int .i64 n2, .slice (some ⟨we2.heap.size, 0, none⟩) L L] 26)).drew := (((Below.refl _ _).alloc (Nat.le_refl _) _).alloc (by simp) _).drew
        have HV0 := Lib.hid (show ((we2.alloc (.cells (madeCells #[.int .i64 0] L) 3)).alloc (.cells #[.int .i64 n0, .int .i64 n1, .int .i64 n2, .slice (some ⟨we2.heap.size, 0, none⟩) L L] 26)).drew.rowIs we2.heap.size 3 L (upZ 0 (foldZ n0 n1 n2 V W)) by
          refine World.rowIs.congr (f := fun _ => .int .i64 0) (World.rowIs.drew ?_) (fun i _ => by unfold upZ; rw [if_neg (by omega)])
          exact (we2.rowIs_made (.int .i64 0) L 3).alloc _)
        have HC0 := Lib.hid (show ((we2.alloc (.cells (madeCells #[.int .i64 0] L) 3)).alloc (.cells #[.int .i64 n0, .int .i64 n1, .int .i64 n2, .slice (some ⟨we2.heap.size, 0, none⟩) L L] 26)).drew.rowIs (we2.heap.size + 1) 26 4 (fun i => if i = 0 then .int .i64 n0 else if i = 1 then .int .i64 n1 else if i = 2 then .int .i64 n2 else .slice (some ⟨we2.heap.size, 0, none⟩) L L) by
          refine World.rowIs.drew ?_
          refine World.rowIs.congr (f := fun i => (#[.int .i64 n0, .int .i64 n1, .int .i64 n2, .slice (some ⟨we2.heap.size, 0, none⟩) L L] : Array Value)[i]!) ?_ (fun i hi => by match i, hi with | 0, _ => rfl | 1, _ => rfl | 2, _ => rfl | 3, _ => rfl)
          have := World.rowIs_alloc (we2.alloc (.cells (madeCells #[.int .i64 0] L) 3)) #[.int .i64 n0, .int .i64 n1, .int .i64 n2, .slice (some ⟨we2.heap.size, 0, none⟩) L L] 26 (fun i => (#[.int .i64 n0, .int .i64 n1, .int .i64 n2, .slice (some ⟨we2.heap.size, 0, none⟩) L L] : Array Value)[i]!) (fun i hi => by match i, hi with | 0, _ => rfl | 1, _ => rfl | 2, _ => rfl | 3, _ => rfl)
          simp only [World.size_alloc] at this
          exact this)
        have QF3 := Lib.hid (QF.out.step hbz hs1)
        have HJ3 := Lib.hid (HJ.out.of_block (hbz.block ga HJ.out.lt))
        have hgc1 : ¬ (we2.heap.size + 1) = we2.heap.size := by omega
        have hga1 : ¬ we2.heap.size = ga := by have := HJ.out.lt; omega
        have hgv2 : w.heap.size + 1 + 1 < we2.heap.size := by omega
        clear hbz hs1 a0 a1 a2 a3 l0 QF HJ hmk
        simp only [Exit.then]
        go_wp2
        go_loopw [83] (fun i wr => ∃ j : Nat, j ≤ L ∧ i = .int .i64 j ∧ wr.rowIs ga 41 L (fun i => wd (bwd n0 n1 n2 (fun i => fx i * fy i) i)) ∧ wr.rowIs we2.heap.size 3 L (upZ j (foldZ n0 n1 n2 V W)) ∧ wr.rowIs (we2.heap.size + 1) 26 4 (fun i => if i = 0 then .int .i64 n0 else if i = 1 then .int .i64 n1 else if i = 2 then .int .i64 n2 else .slice (some ⟨we2.heap.size, 0, none⟩) L L) ∧ FS w n0 n1 n2 L ba oa ca bb ob cb wr) (fun i _ => L - (RowKit.intOf i).toNat)
        case atStart => exact ⟨0, Nat.zero_le _, rfl, HJ3.out, HV0.out, HC0.out, QF3.out⟩
        case round =>
          obtain ⟨j, hj, rfl, qa, qv, qc, qf⟩ := hrel
          have hfv : wr.frozen? ⟨we2.heap.size, j, none⟩ = false := qv.frozen j
          have c0 : wr.cell? ⟨(we2.heap.size + 1), 0, none⟩ = some (.int .i64 n0) := qc.cell (i := 0) (by decide)
          have c1 : wr.cell? ⟨(we2.heap.size + 1), 1, none⟩ = some (.int .i64 n1) := qc.cell (i := 1) (by decide)
          have c2 : wr.cell? ⟨(we2.heap.size + 1), 2, none⟩ = some (.int .i64 n2) := qc.cell (i := 2) (by decide)
          have c3 : wr.cell? ⟨(we2.heap.size + 1), 3, none⟩ = some (.slice (some ⟨we2.heap.size, 0, none⟩) L L) := qc.cell (i := 3) (by decide)
          have hB1 := qf.size
          have hres := qf.res
          have r0 : wr.cell? ⟨w.heap.size + 1 + 1, 0, none⟩ = some (.int .i64 0) := hres.cell (i := 0) (by decide)
          have r1 : wr.cell? ⟨w.heap.size + 1 + 1, 1, none⟩ = some (.int .i64 0) := hres.cell (i := 1) (by decide)
          have r2 : wr.cell? ⟨w.heap.size + 1 + 1, 2, none⟩ = some (.int .i64 0) := hres.cell (i := 2) (by decide)
          have r3 : wr.cell? ⟨w.heap.size + 1 + 1, 3, none⟩ = some (.slice none 0 0) := hres.cell (i := 3) (by decide)
          have rf : ∀ o, wr.frozen? ⟨w.heap.size + 1 + 1, o, none⟩ = false := fun o => hres.frozen o
          have QA := Lib.hid qa; have QV := Lib.hid qv; have QC := Lib.hid qc; have QF := Lib.hid qf
          clear qa qv qc qf hres HJ3 HV0 HC0 QF3
          by_cases hjL : j < L
          · obtain ⟨ov, hcv⟩ : ∃ v, wr.cell? ⟨we2.heap.size, j, none⟩ = some v := ⟨_, QV.out.cell hjL⟩
            obtain ⟨t, et⟩ : ∃ t, t = foldZ n0 n1 n2 V W j := ⟨_, rfl⟩
            have hz : bwd n0 n1 n2 (fun i => fx i * fy i) j = iF t := by rw [et, ← fold_iF, ← bwd_fwd HBX.out _ _ hjL, ← EFX.out, ← EFY.out]
            have htb := fold_bound HBX.out HVW.out.1 HVW.out.2 j
            rw [← et] at htb
            have hcx : wr.cell? ⟨ga, j, none⟩ = some (.int .u64 (((iF t).val : Nat) : Int)) := (QA.out.cell hjL).trans (by rw [hz])
            have ET := Lib.hid et; clear et hz
            rcases Int.lt_or_le t 0 with ht | ht
            · obtain ⟨v, ev⟩ : ∃ v, v = (((iF t).val : Nat) : Int) := ⟨_, rfl⟩
              rw [← ev] at hcx
              have hv1 := iF_neg ht htb.1
              rw [← ev] at hv1
              have hv2 : 9223372034707292160 < v ∧ v < 18446744069414584321 ∧ 18446744069414584321 - v ≤ 288230376151711744 := by omega
              have HV1 := Lib.hid hv1
              clear hv1 ev htb ht
              obtain ⟨hva, hvb, hvc⟩ := hv2
              go_wp2
              go_roundw
              case rel => exact ⟨j + 1, by omega, by go_num, QA.out.setOther (by first | (simp; done) | (simp; omega)) _, upZ_step QV.out _ (congrArg (Value.int .i64) (by rw [← ET.out]; have := HV1.out; omega)), QC.out.setOther (by first | (simp; done) | (simp; omega)) _, QF.out.step (B := we2.heap.size) (Below.setCell (p := ⟨we2.heap.size, j, none⟩) (Below.refl we2.heap.size wr) (Nat.le_refl _) _) hgv2⟩
              case measure => simp [RowKit.intOf]; omega
            · have hv1 := iF_pos ht htb.2
              rw [hv1] at hcx
              have htc := htb.2
              clear hv1 htb
              go_wp2
              go_roundw
              case rel => exact ⟨j + 1, by omega, by go_num, QA.out.setOther (by first | (simp; done) | (simp; omega)) _, upZ_step QV.out _ (by rw [← ET.out]), QC.out.setOther (by first | (simp; done) | (simp; omega)) _, QF.out.step (B := we2.heap.size) (Below.setCell (p := ⟨we2.heap.size, j, none⟩) (Below.refl we2.heap.size wr) (Nat.le_refl _) _) hgv2⟩
              case measure => simp [RowKit.intOf]; omega
          · have hjL' : j = L := by omega
            have HFIN := Lib.hid (show wr.rowIs we2.heap.size 3 L (fun i => .int .i64 (foldZ n0 n1 n2 V W i)) from QV.out.congr (fun i hi => by unfold upZ; rw [if_pos (by omega)]))
            have hgw : w.heap.size ≤ we2.heap.size := by omega
            clear hjL'
            go_wp2
            refine bodyPost_ret (v := .tuple #[.agg #[.int .i64 n0, .int .i64 n1, .int .i64 n2, .slice (some ⟨we2.heap.size, 0, none⟩) L L], .int .i64 0]) (by simp [results, Try.results15, go_sem, *]) rfl ⟨⟨we2.heap.size, rfl, hgw, ?_⟩, ?_⟩
            · exact (((HFIN.out.setOther (by first | (simp; done) | (simp; omega)) _).setOther (by first | (simp; done) | (simp; omega)) _).setOther (by first | (simp; done) | (simp; omega)) _).setOther (by first | (simp; done) | (simp; omega)) _
            · exact (((QF.out.below.setCell (by simp; omega) _).setCell (by simp; omega) _).setCell (by simp; omega) _).setCell (by simp; omega) _
      · have hbz : Below we2.heap.size we2 ((we2.alloc (.cells #[.int .i64 n0, .int .i64 n1, .int .i64 n2, .slice (some ⟨we2.heap.size + 1, 0, none⟩) L L] 26)).alloc (.cells (madeCells #[.int .i64 0] L) 3)).drew := (((Below.refl _ _).alloc (Nat.le_refl _) _).alloc (by simp) _).drew
        have HV0 := Lib.hid (show ((we2.alloc (.cells #[.int .i64 n0, .int .i64 n1, .int .i64 n2, .slice (some ⟨we2.heap.size + 1, 0, none⟩) L L] 26)).alloc (.cells (madeCells #[.int .i64 0] L) 3)).drew.rowIs (we2.heap.size + 1) 3 L (upZ 0 (foldZ n0 n1 n2 V W)) by
          refine World.rowIs.congr (f := fun _ => .int .i64 0) (World.rowIs.drew ?_) (fun i _ => by unfold upZ; rw [if_neg (by omega)])
          have := (we2.alloc (.cells #[.int .i64 n0, .int .i64 n1, .int .i64 n2, .slice (some ⟨we2.heap.size + 1, 0, none⟩) L L] 26)).rowIs_made (.int .i64 0) L 3; simp only [World.size_alloc] at this; exact this)
        have HC0 := Lib.hid (show ((we2.alloc (.cells #[.int .i64 n0, .int .i64 n1, .int .i64 n2, .slice (some ⟨we2.heap.size + 1, 0, none⟩) L L] 26)).alloc (.cells (madeCells #[.int .i64 0] L) 3)).drew.rowIs we2.heap.size 26 4 (fun i => if i = 0 then .int .i64 n0 else if i = 1 then .int .i64 n1 else if i = 2 then .int .i64 n2 else .slice (some ⟨(we2.heap.size + 1), 0, none⟩) L L) by
          refine World.rowIs.drew ?_
          refine World.rowIs.congr (f := fun i => (#[.int .i64 n0, .int .i64 n1, .int .i64 n2, .slice (some ⟨(we2.heap.size + 1), 0, none⟩) L L] : Array Value)[i]!) ?_ (fun i hi => by match i, hi with | 0, _ => rfl | 1, _ => rfl | 2, _ => rfl | 3, _ => rfl)
          have := World.rowIs_alloc we2 #[.int .i64 n0, .int .i64 n1, .int .i64 n2, .slice (some ⟨(we2.heap.size + 1), 0, none⟩) L L] 26 (fun i => (#[.int .i64 n0, .int .i64 n1, .int .i64 n2, .slice (some ⟨(we2.heap.size + 1), 0, none⟩) L L] : Array Value)[i]!) (fun i hi => by match i, hi with | 0, _ => rfl | 1, _ => rfl | 2, _ => rfl | 3, _ => rfl)
          exact this.alloc _)
        have QF3 := Lib.hid (QF.out.step hbz hs1)
        have HJ3 := Lib.hid (HJ.out.of_block (hbz.block ga HJ.out.lt))
        have hgc1 : ¬ we2.heap.size = (we2.heap.size + 1) := by omega
        have hga1 : ¬ (we2.heap.size + 1) = ga := by have := HJ.out.lt; omega
        have hgv2 : w.heap.size + 1 + 1 < (we2.heap.size + 1) := by omega
        clear hbz hs1 a0 a1 a2 a3 l0 QF HJ hmk
        simp only [Exit.then]
        go_wp2
        go_loopw [83] (fun i wr => ∃ j : Nat, j ≤ L ∧ i = .int .i64 j ∧ wr.rowIs ga 41 L (fun i => wd (bwd n0 n1 n2 (fun i => fx i * fy i) i)) ∧ wr.rowIs (we2.heap.size + 1) 3 L (upZ j (foldZ n0 n1 n2 V W)) ∧ wr.rowIs we2.heap.size 26 4 (fun i => if i = 0 then .int .i64 n0 else if i = 1 then .int .i64 n1 else if i = 2 then .int .i64 n2 else .slice (some ⟨(we2.heap.size + 1), 0, none⟩) L L) ∧ FS w n0 n1 n2 L ba oa ca bb ob cb wr) (fun i _ => L - (RowKit.intOf i).toNat)
        case atStart => exact ⟨0, Nat.zero_le _, rfl, HJ3.out, HV0.out, HC0.out, QF3.out⟩
        case round =>
          obtain ⟨j, hj, rfl, qa, qv, qc, qf⟩ := hrel
          have hfv : wr.frozen? ⟨(we2.heap.size + 1), j, none⟩ = false := qv.frozen j
          have c0 : wr.cell? ⟨we2.heap.size, 0, none⟩ = some (.int .i64 n0) := qc.cell (i := 0) (by decide)
          have c1 : wr.cell? ⟨we2.heap.size, 1, none⟩ = some (.int .i64 n1) := qc.cell (i := 1) (by decide)
          have c2 : wr.cell? ⟨we2.heap.size, 2, none⟩ = some (.int .i64 n2) := qc.cell (i := 2) (by decide)
          have c3 : wr.cell? ⟨we2.heap.size, 3, none⟩ = some (.slice (some ⟨(we2.heap.size + 1), 0, none⟩) L L) := qc.cell (i := 3) (by decide)
          have hB1 := qf.size
          have hres := qf.res
          have r0 : wr.cell? ⟨w.heap.size + 1 + 1, 0, none⟩ = some (.int .i64 0) := hres.cell (i := 0) (by decide)
          have r1 : wr.cell? ⟨w.heap.size + 1 + 1, 1, none⟩ = some (.int .i64 0) := hres.cell (i := 1) (by decide)
          have r2 : wr.cell? ⟨w.heap.size + 1 + 1, 2, none⟩ = some (.int .i64 0) := hres.cell (i := 2) (by decide)
          have r3 : wr.cell? ⟨w.heap.size + 1 + 1, 3, none⟩ = some (.slice none 0 0) := hres.cell (i := 3) (by decide)
          have rf : ∀ o, wr.frozen? ⟨w.heap.size + 1 + 1, o, none⟩ = false := fun o => hres.frozen o
          have QA := Lib.hid qa; have QV := Lib.hid qv; have QC := Lib.hid qc; have QF := Lib.hid qf
          clear qa qv qc qf hres HJ3 HV0 HC0 QF3
          by_cases hjL : j < L
          · obtain ⟨ov, hcv⟩ : ∃ v, wr.cell? ⟨(we2.heap.size + 1), j, none⟩ = some v := ⟨_, QV.out.cell hjL⟩
            obtain ⟨t, et⟩ : ∃ t, t = foldZ n0 n1 n2 V W j := ⟨_, rfl⟩
            have hz : bwd n0 n1 n2 (fun i => fx i * fy i) j = iF t := by rw [et, ← fold_iF, ← bwd_fwd HBX.out _ _ hjL, ← EFX.out, ← EFY.out]
            have htb := fold_bound HBX.out HVW.out.1 HVW.out.2 j
            rw [← et] at htb
            have hcx : wr.cell? ⟨ga, j, none⟩ = some (.int .u64 (((iF t).val : Nat) : Int)) := (QA.out.cell hjL).trans (by rw [hz])
            have ET := Lib.hid et; clear et hz
            rcases Int.lt_or_le t 0 with ht | ht
            · obtain ⟨v, ev⟩ : ∃ v, v = (((iF t).val : Nat) : Int) := ⟨_, rfl⟩
              rw [← ev] at hcx
              have hv1 := iF_neg ht htb.1
              rw [← ev] at hv1
              have hv2 : 9223372034707292160 < v ∧ v < 18446744069414584321 ∧ 18446744069414584321 - v ≤ 288230376151711744 := by omega
              have HV1 := Lib.hid hv1
              clear hv1 ev htb ht
              obtain ⟨hva, hvb, hvc⟩ := hv2
              go_wp2
              go_roundw
              case rel => exact ⟨j + 1, by omega, by go_num, QA.out.setOther (by first | (simp; done) | (simp; omega)) _, upZ_step QV.out _ (congrArg (Value.int .i64) (by rw [← ET.out]; have := HV1.out; omega)), QC.out.setOther (by first | (simp; done) | (simp; omega)) _, QF.out.step (B := (we2.heap.size + 1)) (Below.setCell (p := ⟨(we2.heap.size + 1), j, none⟩) (Below.refl (we2.heap.size + 1) wr) (Nat.le_refl _) _) hgv2⟩
              case measure => simp [RowKit.intOf]; omega
            · have hv1 := iF_pos ht htb.2
              rw [hv1] at hcx
              have htc := htb.2
              clear hv1 htb
              go_wp2
              go_roundw
              case rel => exact ⟨j + 1, by omega, by go_num, QA.out.setOther (by first | (simp; done) | (simp; omega)) _, upZ_step QV.out _ (by rw [← ET.out]), QC.out.setOther (by first | (simp; done) | (simp; omega)) _, QF.out.step (B := (we2.heap.size + 1)) (Below.setCell (p := ⟨(we2.heap.size + 1), j, none⟩) (Below.refl (we2.heap.size + 1) wr) (Nat.le_refl _) _) hgv2⟩
              case measure => simp [RowKit.intOf]; omega
          · have hjL' : j = L := by omega
            have HFIN := Lib.hid (show wr.rowIs (we2.heap.size + 1) 3 L (fun i => .int .i64 (foldZ n0 n1 n2 V W i)) from QV.out.congr (fun i hi => by unfold upZ; rw [if_pos (by omega)]))
            have hgw : w.heap.size ≤ (we2.heap.size + 1) := by omega
            clear hjL'
            go_wp2
            refine bodyPost_ret (v := .tuple #[.agg #[.int .i64 n0, .int .i64 n1, .int .i64 n2, .slice (some ⟨(we2.heap.size + 1), 0, none⟩) L L], .int .i64 0]) (by simp [results, Try.results15, go_sem, *]) rfl ⟨⟨(we2.heap.size + 1), rfl, hgw, ?_⟩, ?_⟩
            · exact (((HFIN.out.setOther (by first | (simp; done) | (simp; omega)) _).setOther (by first | (simp; done) | (simp; omega)) _).setOther (by first | (simp; done) | (simp; omega)) _).setOther (by first | (simp; done) | (simp; omega)) _
            · exact (((QF.out.below.setCell (by simp; omega) _).setCell (by simp; omega) _).setCell (by simp; omega) _).setCell (by simp; omega) _

end Go.Proofs.Ytjmhnmlmnlefaaa
