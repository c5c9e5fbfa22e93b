/-
  The law WholePeaks, walked: it returns true.
-/
import Derived.Test.YtjghhgapacnpeaaLawPk3
import Derived.Deep.RegionHeld3
import Derived.IntWalk
import Derived.Deep.DeepCutAuto
namespace Go.Proofs.Ytjghhgapacnpeaa
open Go.RowKit Go.Lib Go.Proofs
attribute [local irreducible] World.setCell
set_option linter.unusedSimpArgs false
set_option linter.unusedVariables false


set_option maxHeartbeats 16000000 in
set_option maxRecDepth 100000 in
theorem peaks_law {b0 b1 b2 : Nat} {lev : Int} {sv : Value} {lv : Nat} {V : Nat → Int} {w : World} (hb0 : b0 ≤ 255) (hb1 : b1 ≤ 255) (hb2 : b2 ≤ 255) (hlev : -128 ≤ lev ∧ lev ≤ 127)
    (hV : Rd w sv lv (fun i => .int .i16 (V i))) (hlv : lv ≤ 140737488355328) (hVb : ∀ i, -32768 ≤ V i ∧ V i ≤ 32767) :
    Calls Try.prog 4 #[.agg #[.int .u8 b0, .int .u8 b1, .int .u8 b2], sv, .int .i8 lev] w fun e w' => e = .returned (.bool true) ∧ Below w.heap.size w w' := by
  have RV := Lib.hid (fun w' (hb : Below w.heap.size w w') => hV.below hb)
  have HVB := Lib.hid hVb
  obtain ⟨hlev1, hlev2⟩ := hlev
  clear hV hVb
  obtain ⟨X0, eX0⟩ : ∃ X, X = w.alloc (.cells #[.int .u8 b0, .int .u8 b1, .int .u8 b2] 44) := ⟨_, rfl⟩
  have HB := Lib.hid (show Below w.heap.size w X0 by rw [eX0]; exact alloc_below w _)
  have RH := Lib.hid (show Has [⟨w.heap.size, 44, 3, u3 b0 b1 b2⟩] X0 by rw [eX0]; exact .cons (u3_row w b0 b1 b2) (.nil _))
  go_enter Try.func4, Try.ntmps4
  go_wp2
  rw [← eX0]
  clear eX0
  have e0 : X0.cell? ⟨w.heap.size, 0, none⟩ = some (.int .u8 b0) := (show World.rowIs X0 (w.heap.size) 44 (3) (u3 b0 b1 b2) from RH.out.one 0 (by simp)).cell (i := 0) (show 0 < 3 by decide)
  have e1 : X0.cell? ⟨w.heap.size, 1, none⟩ = some (.int .u8 b1) := (show World.rowIs X0 (w.heap.size) 44 (3) (u3 b0 b1 b2) from RH.out.one 0 (by simp)).cell (i := 1) (show 1 < 3 by decide)
  have e2 : X0.cell? ⟨w.heap.size, 2, none⟩ = some (.int .u8 b2) := (show World.rowIs X0 (w.heap.size) 44 (3) (u3 b0 b1 b2) from RH.out.one 0 (by simp)).cell (i := 2) (show 2 < 3 by decide)
  have lb : w.heap.size < X0.heap.size := (show World.rowIs X0 (w.heap.size) 44 (3) (u3 b0 b1 b2) from RH.out.one 0 (by simp)).lt
  apply meet
  case a =>
    intro KEY
    have tok0 : True := trivial
    have tok1 : True := trivial
    have tok2 : True := trivial
    go_region_held3 (fun w' => Below X0.heap.size X0 w' ∧ ∀ b o, b < X0.heap.size → w'.cell? ⟨b, o, none⟩ = X0.cell? ⟨b, o, none⟩) ((first | assumption | exact ⟨by assumption, by assumption⟩ | exact sb_of (by (repeat (first | assumption | exact And.left (by assumption) | exact Below.refl _ _ | refine below_drewN ?_ _ | refine Below.setCell ?_ (by first | (simp; done) | omega | (simp; omega)) _ | refine Below.alloc ?_ (by first | (simp; done) | omega | (simp; omega)) _ | refine Below.drew ?_))))) (first | (go_at_call 18; have _t := tok0; refine (lengths_any b0 6 _ hb0 (by decide) (by decide)).mono ?_; rintro e q0 ⟨rfl, hq0⟩; have hs0 := sb_call (Wc := X0) (by (repeat (first | assumption | exact And.left (by assumption) | exact Below.refl _ _ | refine below_drewN ?_ _ | refine Below.setCell ?_ (by first | (simp; done) | omega | (simp; omega)) _ | refine Below.alloc ?_ (by first | (simp; done) | omega | (simp; omega)) _ | refine Below.drew ?_))) hq0; have hl0 := hs0.1.size; have hk0 := hs0.2; obtain ⟨hc0, hf0⟩ := bcell hq0; have hz0 := hq0.size; (try simp at hz0); (try have z0_0 : X0.heap.size < q0.heap.size := (by omega)); clear tok0) | (go_at_call 18; have _t := tok1; refine (lengths_any b1 4 _ hb1 (by decide) (by decide)).mono ?_; rintro e q1 ⟨rfl, hq1⟩; have hs1 := sb_call (Wc := X0) (by (repeat (first | assumption | exact And.left (by assumption) | exact Below.refl _ _ | refine below_drewN ?_ _ | refine Below.setCell ?_ (by first | (simp; done) | omega | (simp; omega)) _ | refine Below.alloc ?_ (by first | (simp; done) | omega | (simp; omega)) _ | refine Below.drew ?_))) hq1; have hl1 := hs1.1.size; have hk1 := hs1.2; obtain ⟨hc1, hf1⟩ := bcell hq1; have hz1 := hq1.size; (try simp at hz1); (try have z1_0 : X0.heap.size < q1.heap.size := (by omega)); (try have z1_1 : q0.heap.size < q1.heap.size := (by omega)); clear tok1) | (go_at_call 18; have _t := tok2; refine (lengths_any b2 4 _ hb2 (by decide) (by decide)).mono ?_; rintro e q2 ⟨rfl, hq2⟩; have hs2 := sb_call (Wc := X0) (by (repeat (first | assumption | exact And.left (by assumption) | exact Below.refl _ _ | refine below_drewN ?_ _ | refine Below.setCell ?_ (by first | (simp; done) | omega | (simp; omega)) _ | refine Below.alloc ?_ (by first | (simp; done) | omega | (simp; omega)) _ | refine Below.drew ?_))) hq2; have hl2 := hs2.1.size; have hk2 := hs2.2; obtain ⟨hc2, hf2⟩ := bcell hq2; have hz2 := hq2.size; (try simp at hz2); (try have z2_0 : X0.heap.size < q2.heap.size := (by omega)); (try have z2_1 : q0.heap.size < q2.heap.size := (by omega)); (try have z2_2 : q1.heap.size < q2.heap.size := (by omega)); clear tok2))
    · have hbz : Below X0.heap.size X0 (q2.alloc (.cells #[.int .i64 (lenOf b0 6 : Nat), .int .i64 (lenOf b1 4 : Nat), .int .i64 (lenOf b2 4 : Nat)] 30)) := (hs2.1.alloc hs2.1.size _)
      refine then_abs (fun X => Has (⟨q2.heap.size, 30, 3, v3 (lenOf b0 6) (lenOf b1 4) (lenOf b2 4)⟩ :: [⟨w.heap.size, 44, 3, u3 b0 b1 b2⟩]) X ∧ Below w.heap.size w X) ⟨.cons (v3_row q2 _ _ _) (RH.out.step hbz), HB.out.trans (hbz.mono HB.out.size)⟩ ?_
      generalize q2.heap.size = gm
      revert gm
      exact KEY.out
    · have hbz : Below X0.heap.size X0 (((q2.setCell ⟨q1.heap.size, 0, none⟩ (.int .i64 (lenOf b0 6 : Nat))).setCell ⟨q1.heap.size, 1, none⟩ (.int .i64 (lenOf b1 4 : Nat))).setCell ⟨q1.heap.size, 2, none⟩ (.int .i64 (lenOf b2 4 : Nat))) := (((hs2.1.setCell (by first | exact Nat.le_refl _ | (simp only; omega)) _).setCell (by first | exact Nat.le_refl _ | (simp only; omega)) _).setCell (by first | exact Nat.le_refl _ | (simp only; omega)) _)
      refine then_abs (fun X => Has (⟨q1.heap.size, 30, 3, v3 (lenOf b0 6) (lenOf b1 4) (lenOf b2 4)⟩ :: [⟨w.heap.size, 44, 3, u3 b0 b1 b2⟩]) X ∧ Below w.heap.size w X) ⟨.cons (v3_set ((v3_row q1 0 0 0).of_block (hq2.block _ (by first | omega | (simp; done) | (simp; omega))))) (RH.out.step hbz), HB.out.trans (hbz.mono HB.out.size)⟩ ?_
      generalize q1.heap.size = gm
      revert gm
      exact KEY.out
    · have hbz : Below X0.heap.size X0 (((q2.setCell ⟨q0.heap.size, 0, none⟩ (.int .i64 (lenOf b0 6 : Nat))).setCell ⟨q0.heap.size, 1, none⟩ (.int .i64 (lenOf b1 4 : Nat))).setCell ⟨q0.heap.size, 2, none⟩ (.int .i64 (lenOf b2 4 : Nat))) := (((hs2.1.setCell (by first | exact Nat.le_refl _ | (simp only; omega)) _).setCell (by first | exact Nat.le_refl _ | (simp only; omega)) _).setCell (by first | exact Nat.le_refl _ | (simp only; omega)) _)
      refine then_abs (fun X => Has (⟨q0.heap.size, 30, 3, v3 (lenOf b0 6) (lenOf b1 4) (lenOf b2 4)⟩ :: [⟨w.heap.size, 44, 3, u3 b0 b1 b2⟩]) X ∧ Below w.heap.size w X) ⟨.cons (v3_set (((v3_row q0 0 0 0).of_block (hq1.block _ (by first | omega | (simp; done) | (simp; omega)))).of_block (hq2.block _ (by first | omega | (simp; done) | (simp; omega))))) (RH.out.step hbz), HB.out.trans (hbz.mono HB.out.size)⟩ ?_
      generalize q0.heap.size = gm
      revert gm
      exact KEY.out
    · have hbz : Below X0.heap.size X0 (((q2.setCell ⟨X0.heap.size, 0, none⟩ (.int .i64 (lenOf b0 6 : Nat))).setCell ⟨X0.heap.size, 1, none⟩ (.int .i64 (lenOf b1 4 : Nat))).setCell ⟨X0.heap.size, 2, none⟩ (.int .i64 (lenOf b2 4 : Nat))) := (((hs2.1.setCell (by first | exact Nat.le_refl _ | (simp only; omega)) _).setCell (by first | exact Nat.le_refl _ | (simp only; omega)) _).setCell (by first | exact Nat.le_refl _ | (simp only; omega)) _)
      refine then_abs (fun X => Has (⟨X0.heap.size, 30, 3, v3 (lenOf b0 6) (lenOf b1 4) (lenOf b2 4)⟩ :: [⟨w.heap.size, 44, 3, u3 b0 b1 b2⟩]) X ∧ Below w.heap.size w X) ⟨.cons (v3_set ((((v3_row X0 0 0 0).of_block (hq0.block _ (by first | omega | (simp; done) | (simp; omega)))).of_block (hq1.block _ (by first | omega | (simp; done) | (simp; omega)))).of_block (hq2.block _ (by first | omega | (simp; done) | (simp; omega))))) (RH.out.step hbz), HB.out.trans (hbz.mono HB.out.size)⟩ ?_
      generalize X0.heap.size = gm
      revert gm
      exact KEY.out
  case b =>
    intro gm X1 hX
    have RH6 := Lib.hid hX.1; have HB6 := Lib.hid hX.2
    clear hX RH HB e0 e1 e2 lb
    have RH := RH6; have HB := HB6
    clear RH6 HB6
    obtain ⟨m0, em0⟩ : ∃ m, m = lenOf b0 6 := ⟨_, rfl⟩
    obtain ⟨m1, em1⟩ : ∃ m, m = lenOf b1 4 := ⟨_, rfl⟩
    obtain ⟨m2, em2⟩ : ∃ m, m = lenOf b2 4 := ⟨_, rfl⟩
    have r0 := lenOf_right b0 6 (by decide)
    have r1 := lenOf_right b1 4 (by decide)
    have r2 := lenOf_right b2 4 (by decide)
    rw [← em0, ← em1, ← em2] at RH ⊢
    rw [← em0] at r0; rw [← em1] at r1; rw [← em2] at r2
    clear em0 em1 em2
    have pL : m0 * m1 * m2 ≤ 96 := Nat.mul_le_mul (Nat.mul_le_mul r0.2 r1.2) r2.2
    have p0 : 0 < m0 ∧ m0 ≤ 192 := by omega
    have p1 : 0 < m1 ∧ m1 ≤ 192 := by omega
    have p2 : 0 < m2 ∧ m2 ≤ 192 := by omega
    have pL1 : 1 ≤ m0 * m1 * m2 := Nat.mul_pos (Nat.mul_pos p0.1 p1.1) p2.1
    have FEW := Lib.hid (fun (V : Nat → Int) => pks_few (n0 := m0) (n1 := m1) (n2 := m2) V lev r0.2 ⟨p1.1, r1.2⟩ ⟨p2.1, r2.2⟩)
    clear r0 r1 r2
    have C1 := Lib.hid (fun w' (hb : Below w.heap.size w w') => counts16_any m0 m1 m2 (RV.out w' hb) hlv HVB.out p0 p1 p2 (by omega))
    obtain ⟨L, eL⟩ : ∃ L, L = m0 * m1 * m2 := ⟨_, rfl⟩
    rw [← eL] at C1 pL pL1
    have EL := Lib.hid eL
    clear eL
    have PB := Lib.hid (And.intro p0 (And.intro p1 p2))
    clear p0 p1 p2
    simp only [Exit.then]
    have y0 : X1.cell? ⟨gm, 0, none⟩ = some (.int .i64 m0) := (show World.rowIs X1 (gm) 30 (3) (v3 m0 m1 m2) from RH.out.one 0 (by simp)).cell (i := 0) (show 0 < 3 by decide)
    have y1 : X1.cell? ⟨gm, 1, none⟩ = some (.int .i64 m1) := (show World.rowIs X1 (gm) 30 (3) (v3 m0 m1 m2) from RH.out.one 0 (by simp)).cell (i := 1) (show 1 < 3 by decide)
    have y2 : X1.cell? ⟨gm, 2, none⟩ = some (.int .i64 m2) := (show World.rowIs X1 (gm) 30 (3) (v3 m0 m1 m2) from RH.out.one 0 (by simp)).cell (i := 2) (show 2 < 3 by decide)
    have ly : gm < X1.heap.size := (show World.rowIs X1 (gm) 30 (3) (v3 m0 m1 m2) from RH.out.one 0 (by simp)).lt
    go_wp2_with fail
    refine (C1.out _ HB.out).mono ?_
    rintro e X2 ⟨⟨gx, rfl, hg, hr⟩, hb⟩
    clear y0 y1 y2 ly
    have hbx := hb
    replace RH := Lib.hid (show Has [⟨gx, 3, L, fun i => .int .i64 (cf lv V i)⟩, ⟨gm, 30, 3, v3 m0 m1 m2⟩, ⟨w.heap.size, 44, 3, u3 b0 b1 b2⟩] X2 from .cons (hr) (RH.out.step hbx))
    replace HB := Lib.hid (HB.out.trans (hbx.mono HB.out.size))
    clear hbx hb
    clear hg hr C1
    obtain ⟨f, ef⟩ : ∃ f, f = cf lv V := ⟨_, rfl⟩
    rw [← ef] at RH
    clear ef
    have hby : Below X2.heap.size X2 (X2.alloc (.cells #[.int .i64 m0, .int .i64 m1, .int .i64 m2, .slice (some ⟨gx, 0, none⟩) L L] 49)) := alloc_below _ _
    have CP := Lib.hid (peaks_any m0 m1 m2 L gx 0 L lev f (X2.alloc (.cells #[.int .i64 m0, .int .i64 m1, .int .i64 m2, .slice (some ⟨gx, 0, none⟩) L L] 49)) PB.out.1 PB.out.2.1 PB.out.2.2 EL.out (by omega) (Nat.lt_of_lt_of_le (show World.rowIs X2 (gx) 3 (L) (fun i => .int .i64 (f i)) from RH.out.one 0 (by simp)).lt hby.size) (fun k hk => by rw [Nat.zero_add]; exact ((show World.rowIs X2 (gx) 3 (L) (fun i => .int .i64 (f i)) from RH.out.one 0 (by simp)).of_block (hby.block _ (show World.rowIs X2 (gx) 3 (L) (fun i => .int .i64 (f i)) from RH.out.one 0 (by simp)).lt)).cell hk) (by rw [EL.out]; exact FEW.out f))
    have FEWF := Lib.hid (FEW.out f)
    clear hby FEW
    go_wp2_with fail
    refine CP.out.mono ?_
    rintro e X4 ⟨⟨v, rfl, hp⟩, hb⟩
    clear CP
    have hbx : Below X2.heap.size X2 X4 := Below.trans (show Below X2.heap.size X2 (X2.alloc (.cells #[.int .i64 m0, .int .i64 m1, .int .i64 m2, .slice (some ⟨gx, 0, none⟩) L L] 49)) from (by repeat (first | assumption | exact Below.refl _ _ | refine below_drewN ?_ _ | refine Below.drew ?_ | refine Below.alloc ?_ (by first | (simp; done) | (simp; omega) | omega) _ | refine Below.setCell ?_ (by first | (simp; done) | (simp; omega) | omega) _))) (hb.mono (by first | (simp; done) | (simp; omega)))
    replace RH := Lib.hid (show Has [⟨X2.heap.size, 49, 4, v4 m0 m1 m2 (.slice (some ⟨gx, 0, none⟩) L L)⟩, ⟨gx, 3, L, fun i => .int .i64 (f i)⟩, ⟨gm, 30, 3, v3 m0 m1 m2⟩, ⟨w.heap.size, 44, 3, u3 b0 b1 b2⟩] X4 from .cons ((v4_row X2 m0 m1 m2 _).of_block (hb.block _ (by first | (simp; done) | (simp; omega)))) (RH.out.step hbx))
    replace HB := Lib.hid (HB.out.trans (hbx.mono HB.out.size))
    clear hbx hb
    obtain ⟨gc, egc⟩ : ∃ g, g = X2.heap.size := ⟨_, rfl⟩
    rw [← egc] at RH ⊢
    clear egc
    obtain ⟨d, ed⟩ : ∃ d, d = sorted m0 m1 m2 f lev := ⟨_, rfl⟩
    have RK := Lib.hid (show Ranked m0 m1 m2 f lev d by rw [ed]; exact ranked m0 m1 m2 f lev)
    have FEWD := Lib.hid (show (pks m0 m1 m2 f lev (m0 * m1 * m2)).length ≤ 12 from FEWF.out)
    rw [← ed] at hp
    clear ed
    have HP := Lib.hid (show PS w [⟨gc, 49, 4, v4 m0 m1 m2 (.slice (some ⟨gx, 0, none⟩) L L)⟩, ⟨gx, 3, L, fun i => .int .i64 (f i)⟩, ⟨gm, 30, 3, v3 m0 m1 m2⟩, ⟨w.heap.size, 44, 3, u3 b0 b1 b2⟩] v d X4 from ⟨RH.out, hp, HB.out⟩)
    clear hp RH HB
    have C2 := Lib.hid (peaks_any 1 1 2 2 X4.heap.size 0 2 0 V37 (X4.alloc (.cells #[.int .i64 3, .int .i64 7] 3)) (by decide) (by decide) (by decide) rfl (by decide) (by simp) (lit37 X4) (by rw [pks37]; decide))
    go_wp2_with fail
    refine C2.out.mono ?_
    rintro e X5 ⟨⟨v2, rfl, hp⟩, hb⟩
    clear C2
    rw [sorted37] at hp
    obtain ⟨a2, c2, rfl, hp⟩ := hp
    obtain ⟨g2, rfl, hg2, hc2⟩ := hp (by decide)
    obtain ⟨t0, t1, t2, t3⟩ := hc2 0 (by decide)
    have s0 : X5.cell? ⟨g2, 0, none⟩ = some (.int .i64 0) := by simpa using t0
    have s1 : X5.cell? ⟨g2, 1, none⟩ = some (.int .i64 0) := by simpa using t1
    have s2 : X5.cell? ⟨g2, 2, none⟩ = some (.int .i64 1) := by simpa using t2
    have s3 : X5.cell? ⟨g2, 3, none⟩ = some (.int .i64 7) := by simpa using t3
    clear hp hc2 t0 t1 t2 t3
    have hbx : Below X4.heap.size X4 X5 := Below.trans (show Below X4.heap.size X4 (X4.alloc (.cells #[.int .i64 3, .int .i64 7] 3)) from (by repeat (first | assumption | exact Below.refl _ _ | refine below_drewN ?_ _ | refine Below.drew ?_ | refine Below.alloc ?_ (by first | (simp; done) | (simp; omega) | omega) _ | refine Below.setCell ?_ (by first | (simp; done) | (simp; omega) | omega) _))) (hb.mono (by simp))
    have HP5 := Lib.hid (HP.out.step hbx)
    clear hb hbx HP
    have nq : ∀ w, (binOp .neq 30 (.agg #[.int .i64 0, .int .i64 0, .int .i64 1]) (.agg #[.int .i64 0, .int .i64 0, .int .i64 1])).run Try.prog w = .ok (.bool false) w := fun _ => by kernel_rfl
    have x3 : X5.cell? ⟨gc, 3, none⟩ = some (.slice (some ⟨gx, 0, none⟩) L L) := (show World.rowIs X5 (gc) 49 (4) (v4 m0 m1 m2 (.slice (some ⟨gx, 0, none⟩) L L)) from HP5.out.has.one 0 (by simp)).cell (i := 3) (show 3 < 4 by first | decide | assumption | omega)
    go_wp2
    clear s0 s1 s2 s3 hg2 nq
    go_loop [13, 14] (fun t y => ∃ k : Nat, k ≤ L ∧ y = .int .i64 k ∧ t = .int .i64 (mxv f k)) (fun _ y => L - (RowKit.intOf y).toNat)
    case atStart => exact ⟨0, Nat.zero_le _, rfl, rfl⟩
    case round =>
      obtain ⟨k, hk, rfl, rfl⟩ := hrel
      by_cases hkL : k < L
      · have hkl : (k : Int) < (L : Int) := by omega
        have hk96 : (k : Int) < 96 := by omega
        have ck : X5.cell? ⟨gx, k, none⟩ = some (.int .i64 (f k)) := (show World.rowIs X5 (gx) 3 (L) (fun i => .int .i64 (f i)) from HP5.out.has.one 1 (by simp)).cell hkL
        have UP := Lib.hid (fun h => mxv_up (V := f) (k := k) h)
        have KP := Lib.hid (fun h => mxv_keep (V := f) (k := k) h)
        obtain ⟨x, ex⟩ : ∃ x, x = f k := ⟨_, rfl⟩
        obtain ⟨y, ey⟩ : ∃ y, y = mxv f k := ⟨_, rfl⟩
        rw [← ex] at ck UP
        rw [← ey] at KP ⊢
        have EX := Lib.hid ex; have EY := Lib.hid ey
        clear ex ey
        by_cases k0 : k = 0
        · have a1 : ((k : Int) == 0) = true := by rw [beq_iff_eq]; omega
          have UU := Lib.hid (UP.out (.inl k0))
          clear k0
          go_wp2
          go_round
          case rel => exact ⟨k + 1, by omega, by go_num, by rw [UU.out]⟩
          case measure => simp [RowKit.intOf]; omega
        · have a1 : ((k : Int) == 0) = false := by rw [beq_eq_false_iff_ne]; omega
          by_cases hy : y < x
          · have a2 : decide (y < x) = true := decide_eq_true hy
            have UU := Lib.hid (UP.out (.inr (by rw [← EY.out]; exact hy)))
            clear k0
            go_wp2
            go_round
            case rel => exact ⟨k + 1, by omega, by go_num, by rw [UU.out]⟩
            case measure => simp [RowKit.intOf]; omega
          · have a2 : decide (y < x) = false := decide_eq_false hy
            have UU := Lib.hid (KP.out (fun h => by rw [← EX.out] at h; exact h.elim k0 hy))
            clear k0
            go_wp2
            go_round
            case rel => exact ⟨k + 1, by omega, by go_num, by rw [UU.out]⟩
            case measure => simp [RowKit.intOf]; omega
      · have hkl : ¬ (k : Int) < (L : Int) := by omega
        have ek : k = L := by omega
        have MX := Lib.hid (show (∀ i, i < L → f i ≤ mxv f k) ∧ ∃ i, i < L ∧ f i = mxv f k by
          obtain ⟨L1, e1⟩ : ∃ l, L = l + 1 := ⟨L - 1, by omega⟩
          rw [ek, e1]; exact mxv_is f L1)
        obtain ⟨y, ey⟩ : ∃ y, y = mxv f k := ⟨_, rfl⟩
        rw [← ey] at MX ⊢
        clear ey ek
        obtain ⟨va, vc, ev, hcells⟩ := HP5.out.pk
        by_cases hy : y ≤ lev
        · have a2 : decide (y ≤ lev) = true := decide_eq_true hy
          have N0 : d.size = 0 := none_above RK.out (fun i hi => Int.le_trans (MX.out.1 i (by rw [EL.out]; exact hi)) hy)
          have BE := Lib.hid HP5.out.bel
          rw [N0] at ev
          clear hcells HP5 RK MX N0
          subst ev
          go_wp2
          go_ret
          exact ⟨rfl, BE.out⟩
        · have a2 : decide (y ≤ lev) = false := decide_eq_false hy
          have FG := first_greatest RK.out PB.out.1.1 PB.out.2.1.1 PB.out.2.2.1 (most := y) (fun i hi => MX.out.1 i (by rw [EL.out]; exact hi)) (by obtain ⟨i, hi, e⟩ := MX.out.2; exact ⟨i, by rw [← EL.out]; exact hi, e⟩) (by omega)
          obtain ⟨gv, rfl, hgv, hc0⟩ := hcells FG.1
          have c3 := (hc0 0 FG.1).2.2.2
          rw [FG.2] at c3
          simp only [Nat.zero_mul, Nat.zero_add] at c3
          obtain ⟨N, eN⟩ : ∃ N, N = d.size := ⟨_, rfl⟩
          rw [← eN] at ev FG
          have N1 := FG.1
          have NL : N ≤ 12 := by rw [eN, RK.out.size]; exact FEWD.out
          have EN := Lib.hid eN
          clear eN hc0 FG MX
          subst ev
          have ni : (0 : Int) < (N : Int) := by omega
          have nz : ((N : Int) == 0) = false := by rw [beq_eq_false_iff_ne]; omega
          have HPS := Lib.hid (show PS w [⟨gc, 49, 4, v4 m0 m1 m2 (.slice (some ⟨gx, 0, none⟩) L L)⟩, ⟨gx, 3, L, fun i => .int .i64 (f i)⟩, ⟨gm, 30, 3, v3 m0 m1 m2⟩, ⟨w.heap.size, 44, 3, u3 b0 b1 b2⟩] (.slice (some ⟨gv, 0, none⟩) N vc) d X5 from HP5.out)
          skip
          go_wp2
          clear HP5 x3 hgv nz ni a2
          go_loopw [15] (fun y wr => ∃ i : Nat, i ≤ N ∧ y = .int .i64 i ∧ PS w [⟨gc, 49, 4, v4 m0 m1 m2 (.slice (some ⟨gx, 0, none⟩) L L)⟩, ⟨gx, 3, L, fun i => .int .i64 (f i)⟩, ⟨gm, 30, 3, v3 m0 m1 m2⟩, ⟨w.heap.size, 44, 3, u3 b0 b1 b2⟩] (.slice (some ⟨gv, 0, none⟩) N vc) d wr) (fun y _ => N - (RowKit.intOf y).toNat)
          case atStart => exact ⟨0, Nat.zero_le _, rfl, HPS.out⟩
          case round =>
            clear HPS
            obtain ⟨i, hi, rfl, hps⟩ := hrel
            have HP := Lib.hid hps
            clear hps
            by_cases hiN : i < N
            · have hil : (i : Int) < (N : Int) := by omega
              have hi12 : (i : Int) < 12 := by omega
              obtain ⟨q, hq, hp, ed⟩ := RK.out.all i (by rw [← EN.out]; exact hiN)
              have hpk := Lib.hid hp
              rw [← EL.out] at hq
              obtain ⟨lvs, s0, s1, s2, s3⟩ := HP.out.pk.at (t := i) (by rw [← EN.out]; omega)
              rw [ed] at s0 s1 s2 s3
              have ED := Lib.hid ed
              clear ed hp
              have b0 := at0_lt (EL.out ▸ hq : q < m0 * m1 * m2); have b1 := at1_lt (n2 := m2) (i := q) PB.out.2.1.1; have b2 := at2_lt (i := q) PB.out.2.2.1
              have eq0 := enc_at m1 m2 q
              have hnb := Lib.hid (show ∀ s, nb m0 m1 m2 q s = enc m1 m2 (wr1 m0 (at0 m1 m2 q) (s / 9)) (wr1 m1 (at1 m1 m2 q) (s / 3 % 3)) (wr1 m2 (at2 m2 q) (s % 3)) from fun _ => rfl)
              change wr.cell? _ = some (.int .i64 (at0 m1 m2 q : Nat)) at s0
              change wr.cell? _ = some (.int .i64 (at1 m1 m2 q : Nat)) at s1
              change wr.cell? _ = some (.int .i64 (at2 m2 q : Nat)) at s2
              change wr.cell? _ = some (.int .i64 (f q)) at s3
              obtain ⟨p0, ep0⟩ : ∃ p, p = at0 m1 m2 q := ⟨_, rfl⟩
              obtain ⟨p1, ep1⟩ : ∃ p, p = at1 m1 m2 q := ⟨_, rfl⟩
              obtain ⟨p2, ep2⟩ : ∃ p, p = at2 m2 q := ⟨_, rfl⟩
              have ATX := Lib.hid (show at0 m1 m2 q = p0 ∧ at1 m1 m2 q = p1 ∧ at2 m2 q = p2 from ⟨ep0.symm, ep1.symm, ep2.symm⟩)
              rw [← ep0] at b0 eq0 s0 hnb
              rw [← ep1] at b1 eq0 s1 hnb
              rw [← ep2] at b2 eq0 s2 hnb
              clear ep0 ep1 ep2
              obtain ⟨x, ex⟩ : ∃ x, x = f q := ⟨_, rfl⟩
              have fq : wr.cell? ⟨gx, q, none⟩ = some (.int .i64 x) := by rw [ex]; exact (show World.rowIs wr (gx) 3 (L) (fun i => .int .i64 (f i)) from HP.out.has.one 1 (by simp)).cell hq
              rw [← ex] at s3
              have EX := Lib.hid ex
              have xl : lev < x := by rw [ex]; exact isPk_lt hpk.out
              clear ex
              have CS := Lib.hid (fun w' => spot_nat m0 m1 m2 p0 p1 p2 q w' PB.out.2.1.2 PB.out.2.2.2 (by have := PB.out; omega) (by have := PB.out; omega) (by have := PB.out; omega) eq0)
              clear eq0
              have BB := Lib.hid (And.intro b0 (And.intro b1 b2))
              clear b0 b1 b2
              have y0 : wr.cell? ⟨gm, 0, none⟩ = some (.int .i64 m0) := (show World.rowIs wr (gm) 30 (3) (v3 m0 m1 m2) from HP.out.has.one 2 (by simp)).cell (i := 0) (show 0 < 3 by decide)
              have y1 : wr.cell? ⟨gm, 1, none⟩ = some (.int .i64 m1) := (show World.rowIs wr (gm) 30 (3) (v3 m0 m1 m2) from HP.out.has.one 2 (by simp)).cell (i := 1) (show 1 < 3 by decide)
              have y2 : wr.cell? ⟨gm, 2, none⟩ = some (.int .i64 m2) := (show World.rowIs wr (gm) 30 (3) (v3 m0 m1 m2) from HP.out.has.one 2 (by simp)).cell (i := 2) (show 2 < 3 by decide)
              have ly : gm < wr.heap.size := (show World.rowIs wr (gm) 30 (3) (v3 m0 m1 m2) from HP.out.has.one 2 (by simp)).lt
              have x3 : wr.cell? ⟨gc, 3, none⟩ = some (.slice (some ⟨gx, 0, none⟩) L L) := (show World.rowIs wr (gc) 49 (4) (v4 m0 m1 m2 (.slice (some ⟨gx, 0, none⟩) L L)) from HP.out.has.one 0 (by simp)).cell (i := 3) (show 3 < 4 by first | decide | assumption | omega)
              have lx : gc < wr.heap.size := (show World.rowIs wr (gc) 49 (4) (v4 m0 m1 m2 (.slice (some ⟨gx, 0, none⟩) L L)) from HP.out.has.one 0 (by simp)).lt
              have lxx : gx < wr.heap.size := (show World.rowIs wr (gx) 3 (L) (fun i => .int .i64 (f i)) from HP.out.has.one 1 (by simp)).lt
              go_wp2
              refine region_all (by kernel_rfl) (by kernel_rfl) ?_
              repeat (go_big_quiet_step ((go_at_call 21; with_reducible exact held_of _ (Nat.le_refl _) (CS.out _))))
              refine wpQuiet_nil ?_
              rintro w7 ⟨⟨w0, hb⟩, rfl⟩
              have HP7 := Lib.hid (HP.out.step hb)
              clear hb y0 y1 y2 ly x3 lx lxx fq s0 s1 s2 s3 lvs HP CS
              obtain ⟨lvs, s0, s1, s2, s3⟩ := HP7.out.pk.at (t := i) (by rw [← EN.out]; omega)
              rw [ED.out] at s0 s1 s2 s3
              change w7.cell? _ = some (.int .i64 (f q)) at s3
              rw [← EX.out] at s3
              have fq : w7.cell? ⟨gx, q, none⟩ = some (.int .i64 x) := by rw [EX.out]; exact (show World.rowIs w7 (gx) 3 (L) (fun i => .int .i64 (f i)) from HP7.out.has.one 1 (by simp)).cell hq
              clear s0 s1 s2
              have x3 : w7.cell? ⟨gc, 3, none⟩ = some (.slice (some ⟨gx, 0, none⟩) L L) := (show World.rowIs w7 (gc) 49 (4) (v4 m0 m1 m2 (.slice (some ⟨gx, 0, none⟩) L L)) from HP7.out.has.one 0 (by simp)).cell (i := 3) (show 3 < 4 by first | decide | assumption | omega)
              have lx : gc < w7.heap.size := (show World.rowIs w7 (gc) 49 (4) (v4 m0 m1 m2 (.slice (some ⟨gx, 0, none⟩) L L)) from HP7.out.has.one 0 (by simp)).lt
              have lxx : gx < w7.heap.size := (show World.rowIs w7 (gx) 3 (L) (fun i => .int .i64 (f i)) from HP7.out.has.one 1 (by simp)).lt
              have qL : (q : Int) < (L : Int) := by omega
              have g1 : decide ((q : Int) < 0) = false := decide_eq_false (by omega)
              have g2 : decide ((L : Int) ≤ (q : Int)) = false := decide_eq_false (by omega)
              have g3 : decide (L ≤ q) = false := decide_eq_false (by omega)
              have g4 : decide (x ≤ lev) = false := decide_eq_false (by omega)
              go_wp2
              go_quiet (fail)
              go_upto_region 23 with (fail)
              clear g1 g2 g3 g4
              have HP7n := Lib.hid (HP7.out.step (below_drewN (Below.refl _ _) nq))
              have AT := Lib.hid (show at0 m1 m2 q = p0 ∧ at1 m1 m2 q = p1 ∧ at2 m2 q = p2 from ATX.out)
              obtain ⟨W7, eW7⟩ : ∃ W, W = w7.drewN nq := ⟨_, rfl⟩
              rw [← eW7] at HP7n ⊢
              clear eW7 s3 fq x3 lx lxx lvs
              go_cut [201] (fun sl wx => sl = .bool false ∧ PS w [⟨gc, 49, 4, v4 m0 m1 m2 (.slice (some ⟨gx, 0, none⟩) L L)⟩, ⟨gx, 3, L, fun i => .int .i64 (f i)⟩, ⟨gm, 30, 3, v3 m0 m1 m2⟩, ⟨w.heap.size, 44, 3, u3 b0 b1 b2⟩] (.slice (some ⟨gv, 0, none⟩) N vc) d wx)
              case first =>
                by_cases i0 : i = 0
                · have g5 : decide ((0 : Int) < (i : Int)) = false := decide_eq_false (by omega)
                  have g6 : decide (0 < i) = false := decide_eq_false (by omega)
                  clear i0
                  refine region_all (by kernel_rfl) (by kernel_rfl) ?_
                  repeat (go_big_quiet_step ((fail)))
                  refine wpQuiet_nil ?_
                  rintro w8 ⟨⟨w0, hb⟩, rfl⟩
                  go_wp2
                  go_meet
                  exact ⟨rfl, HP7n.out.step hb⟩
                · have g5 : decide ((0 : Int) < (i : Int)) = true := decide_eq_true (by omega)
                  have g6 : decide (0 < i) = true := decide_eq_true (by omega)
                  obtain ⟨s, es⟩ : ∃ s : Nat, (i : Int) - 1 = (s : Int) := ⟨i - 1, by omega⟩
                  have hsi : s < i := by omega
                  clear i0
                  obtain ⟨r, hr, hpr, er⟩ := RK.out.all s (by rw [← EN.out]; omega)
                  rw [← EL.out] at hr
                  clear hpr
                  have ORD := Lib.hid (RK.out.order s i hsi (by rw [← EN.out]; exact hiN))
                  have ER := Lib.hid er
                  clear er
                  have ORD2 := Lib.hid (show f q < f r ∨ (f r = f q ∧ r < q) by
                    have h := ORD.out
                    rw [ED.out, ER.out, pkey_at, pkey_at] at h
                    rcases h with h | ⟨h1, h2⟩
                    · exact .inl h
                    · exact .inr ⟨h1, by omega⟩)
                  clear ORD
                  obtain ⟨lvr, r0, r1, r2, r3⟩ := HP7n.out.pk.at (t := s) (by rw [← EN.out]; omega)
                  rw [ER.out] at r0 r1 r2 r3
                  clear lvr
                  obtain ⟨lvs, s0, s1, s2, s3⟩ := HP7n.out.pk.at (t := i) (by rw [← EN.out]; omega)
                  rw [ED.out] at s3
                  change W7.cell? _ = some (.int .i64 (f q)) at s3
                  rw [← EX.out] at s3
                  clear s0 s1 s2
                  change W7.cell? _ = some (.int .i64 (at0 m1 m2 r : Nat)) at r0
                  change W7.cell? _ = some (.int .i64 (at1 m1 m2 r : Nat)) at r1
                  change W7.cell? _ = some (.int .i64 (at2 m2 r : Nat)) at r2
                  change W7.cell? _ = some (.int .i64 (f r)) at r3
                  have l0 := at0_lt (EL.out ▸ hr : r < m0 * m1 * m2); have l1 := at1_lt (n2 := m2) (i := r) PB.out.2.1.1; have l2 := at2_lt (i := r) PB.out.2.2.1
                  have eqr := enc_at m1 m2 r
                  obtain ⟨p0r, ep0⟩ : ∃ p, p = at0 m1 m2 r := ⟨_, rfl⟩
                  rw [← ep0] at l0 eqr r0
                  clear ep0
                  obtain ⟨p1r, ep1⟩ : ∃ p, p = at1 m1 m2 r := ⟨_, rfl⟩
                  rw [← ep1] at l1 eqr r1
                  clear ep1
                  obtain ⟨p2r, ep2⟩ : ∃ p, p = at2 m2 r := ⟨_, rfl⟩
                  rw [← ep2] at l2 eqr r2
                  clear ep2
                  have CR := Lib.hid (fun w' => spot_nat m0 m1 m2 p0r p1r p2r r w' PB.out.2.1.2 PB.out.2.2.2 (by have := PB.out; omega) (by have := PB.out; omega) (by have := PB.out; omega) eqr)
                  clear eqr l0 l1 l2 hr
                  obtain ⟨y, ey⟩ : ∃ y, y = f r := ⟨_, rfl⟩
                  rw [← ey] at r3
                  have ORD3 := Lib.hid (show x < y ∨ (y = x ∧ r < q) by rw [ey, EX.out]; exact ORD2.out)
                  clear ey ORD2
                  have y0 : W7.cell? ⟨gm, 0, none⟩ = some (.int .i64 m0) := (show World.rowIs W7 (gm) 30 (3) (v3 m0 m1 m2) from HP7n.out.has.one 2 (by simp)).cell (i := 0) (show 0 < 3 by decide)
                  have y1 : W7.cell? ⟨gm, 1, none⟩ = some (.int .i64 m1) := (show World.rowIs W7 (gm) 30 (3) (v3 m0 m1 m2) from HP7n.out.has.one 2 (by simp)).cell (i := 1) (show 1 < 3 by decide)
                  have y2 : W7.cell? ⟨gm, 2, none⟩ = some (.int .i64 m2) := (show World.rowIs W7 (gm) 30 (3) (v3 m0 m1 m2) from HP7n.out.has.one 2 (by simp)).cell (i := 2) (show 2 < 3 by decide)
                  have ly : gm < W7.heap.size := (show World.rowIs W7 (gm) 30 (3) (v3 m0 m1 m2) from HP7n.out.has.one 2 (by simp)).lt
                  skip
                  rcases ORD3.out with h1 | ⟨h1, h2⟩
                  · have k1 : decide (y < x) = false := decide_eq_false (by omega)
                    have k2 : (x == y) = false := by rw [beq_eq_false_iff_ne]; omega
                    clear h1
                    refine region_all (by kernel_rfl) (by kernel_rfl) ?_
                    repeat (go_big_quiet_step ((go_at_call 21; with_reducible exact held_of _ (Nat.le_refl _) (CR.out _))))
                    refine wpQuiet_nil ?_
                    rintro w8 ⟨⟨w0, hb⟩, rfl⟩
                    go_wp2
                    go_meet
                    exact ⟨rfl, HP7n.out.step hb⟩
                  · subst h1
                    have k1 : decide (y < y) = false := decide_eq_false (by omega)
                    have k2 : (y == y) = true := by rw [beq_iff_eq]
                    have k3 : decide ((q : Int) ≤ (r : Int)) = false := decide_eq_false (by omega)
                    have k4 : decide (q ≤ r) = false := decide_eq_false (by omega)
                    clear h2
                    refine region_all (by kernel_rfl) (by kernel_rfl) ?_
                    repeat (go_big_quiet_step ((go_at_call 21; with_reducible exact held_of _ (Nat.le_refl _) (CR.out _))))
                    refine wpQuiet_nil ?_
                    rintro w8 ⟨⟨w0, hb⟩, rfl⟩
                    go_wp2
                    go_meet
                    exact ⟨rfl, HP7n.out.step hb⟩
              case rest =>
                obtain ⟨rfl, hps⟩ := hcut
                have HP8 := Lib.hid hps
                clear hps HP7 HP7n
                have KF := Lib.hid (show PkF L N i q p0 p1 p2 m0 m1 m2 lev x f d from ⟨EN.out, EL.out, NL, pL, hiN, hq, hpk.out, ED.out, PB.out, AT.out.1, AT.out.2.1, AT.out.2.2, EX.out⟩)
                go_wp2
                refine pk_loops HP8.out KF.out ?_
                intro u6 u17 u18 u19 u20 u202 u203 u204 u205 u206 u207 u208 u209 u210 u211 u212 u213 u214 u215 u216 u217 u218 u219 u220 u221 u222 u223 u224 u225 u226 u227 u228 u229 u230 u231 u232 u233 u234 u235 u236 u237 u238 u239 u240 u241 u242 u243 u244 u245 u246 u247 u248 u249 u250 u251 u252 u253 u254 u255 u256 u257 u258 u259 u260 W9 hps9
                have HP9 := Lib.hid hps9
                clear hps9
                go_wp2
                go_roundw
                case rel => exact ⟨i + 1, by omega, by go_num, HP9.out⟩
                case measure => simp [RowKit.intOf]; omega
            · go_wp2
              go_ret
              exact ⟨rfl, HP.out.bel⟩
end Go.Proofs.Ytjghhgapacnpeaa
