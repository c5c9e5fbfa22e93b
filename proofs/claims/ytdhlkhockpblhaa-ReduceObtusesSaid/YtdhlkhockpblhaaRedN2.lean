/-
  DocObtuse, the walk.
-/
import Derived.Test.YtdhlkhockpblhaaRedN2a
import Derived.Test.YtdhlkhockpblhaaRedN2b
namespace Go.Proofs.Ytdhlkhockpblhaa
open Go.RowKit
attribute [local irreducible] World.setCell

set_option linter.unusedSimpArgs false
set_option linter.unusedVariables false

set_option maxHeartbeats 6400000 in
set_option maxRecDepth 100000 in
theorem DocObtuse_run (m : Met) (N : Nat) (hNb : N < 4611686018427387904) (hN : pick (it m N) = 6) (hl : ∀ k, k < N → pick (it m k) < 6) (w : World) (h : chk m = 0):
    Calls Try.prog 14 #[.agg #[.int .i64 m.aa, .int .i64 m.bb, .int .i64 m.cc, .int .i64 m.bc, .int .i64 m.ac, .int .i64 m.ab]] w fun e w' => e = .returned (.tuple #[.agg #[.int .i64 (it m N).aa, .int .i64 (it m N).bb, .int .i64 (it m N).cc, .int .i64 (it m N).bc, .int .i64 (it m N).ac, .int .i64 (it m N).ab], .agg #[.int .i64 (al m N).p00, .int .i64 (al m N).p01, .int .i64 (al m N).p02, .int .i64 (al m N).p10, .int .i64 (al m N).p11, .int .i64 (al m N).p12, .int .i64 (al m N).p20, .int .i64 (al m N).p21, .int .i64 (al m N).p22], .int .i64 N, .int .i64 0]) ∧ Below w.heap.size w w' := by
  have hck := chk_ok h
  have LD := Lib.hid (fun w => laid_lf m w)
  have ew : ∀ k, k ≤ N → wrap64 (it m k).aa = (it m k).aa ∧ wrap64 (it m k).bb = (it m k).bb ∧ wrap64 (it m k).cc = (it m k).cc ∧ wrap64 (it m k).bc = (it m k).bc ∧ wrap64 (it m k).ac = (it m k).ac ∧ wrap64 (it m k).ab = (it m k).ab := fun k hk => by
    obtain ⟨a, b⟩ := it_good hck.pd hck.sum k (fun j hj => hl j (by omega))
    exact ent_w a b
  have EW := Lib.hid ew; clear ew hck
  have E := Lib.hid h; clear h
  go_enter Try.func14, Try.ntmps14
  go_wp2_with fail
  refine (to_v (congrArg (Value.int .i64) E.out) (dcheck_any _ _ _ _ _ _ _)).mono ?_
  rintro e w1 ⟨rfl, hb1⟩
  have t1 : World.rowIs (((w.alloc (.cells #[.int .i64 m.aa, .int .i64 m.bb, .int .i64 m.cc, .int .i64 m.bc, .int .i64 m.ac, .int .i64 m.ab] 23)).alloc (.cells #[.int .i64 0, .int .i64 0, .int .i64 0, .int .i64 0, .int .i64 0, .int .i64 0] 23)).alloc (.cells #[.int .i64 0, .int .i64 0, .int .i64 0, .int .i64 0, .int .i64 0, .int .i64 0, .int .i64 0, .int .i64 0, .int .i64 0] 26)) (w.heap.size + 1) 23 6 (lv Z6) := by
    have := alloc_lv (w.alloc (.cells #[.int .i64 m.aa, .int .i64 m.bb, .int .i64 m.cc, .int .i64 m.bc, .int .i64 m.ac, .int .i64 m.ab] 23)) Z6 23
    simp only [World.size_alloc] at this
    exact this.alloc _
  have t2 : World.rowIs (((w.alloc (.cells #[.int .i64 m.aa, .int .i64 m.bb, .int .i64 m.cc, .int .i64 m.bc, .int .i64 m.ac, .int .i64 m.ab] 23)).alloc (.cells #[.int .i64 0, .int .i64 0, .int .i64 0, .int .i64 0, .int .i64 0, .int .i64 0] 23)).alloc (.cells #[.int .i64 0, .int .i64 0, .int .i64 0, .int .i64 0, .int .i64 0, .int .i64 0, .int .i64 0, .int .i64 0, .int .i64 0] 26)) (w.heap.size + 1 + 1) 26 9 (lv Z9) := by
    have := alloc_lv ((w.alloc (.cells #[.int .i64 m.aa, .int .i64 m.bb, .int .i64 m.cc, .int .i64 m.bc, .int .i64 m.ac, .int .i64 m.ab] 23)).alloc (.cells #[.int .i64 0, .int .i64 0, .int .i64 0, .int .i64 0, .int .i64 0, .int .i64 0] 23)) Z9 26
    simp only [World.size_alloc] at this
    exact this
  have RH := Lib.hid (show Has [⟨w.heap.size, 23, 6, lv (M6 m)⟩, ⟨w.heap.size + 1, 23, 6, lv Z6⟩, ⟨w.heap.size + 1 + 1, 26, 9, lv Z9⟩] w1 from .cons ((((alloc_lv w (M6 m) 23).alloc _).alloc _).of_block (hb1.block _ (by first | (simp; done) | (simp; omega)))) (.cons (t1.of_block (hb1.block _ (by first | (simp; done) | (simp; omega)))) (.cons (t2.of_block (hb1.block _ (by first | (simp; done) | (simp; omega)))) (.nil _))))
  have HB := Lib.hid (show Below w.heap.size w w1 from Below.trans (show Below w.heap.size w (((w.alloc (.cells #[.int .i64 m.aa, .int .i64 m.bb, .int .i64 m.cc, .int .i64 m.bc, .int .i64 m.ac, .int .i64 m.ab] 23)).alloc (.cells #[.int .i64 0, .int .i64 0, .int .i64 0, .int .i64 0, .int .i64 0, .int .i64 0] 23)).alloc (.cells #[.int .i64 0, .int .i64 0, .int .i64 0, .int .i64 0, .int .i64 0, .int .i64 0, .int .i64 0, .int .i64 0, .int .i64 0] 26)) from (by repeat (first | assumption | exact Below.refl _ _ | refine below_drewN ?_ _ | refine Below.drew ?_ | refine Below.alloc ?_ (by first | (simp; done) | (simp; omega) | omega) _ | refine Below.setCell ?_ (by first | (simp; done) | (simp; omega) | omega) _))) (hb1.mono (by first | (simp; done) | (simp; omega))))
  clear hb1 t1 t2
  have a0 : w1.cell? ⟨w.heap.size, 0, none⟩ = some (.int .i64 m.aa) := (show World.rowIs w1 (w.heap.size) 23 (6) (lv (M6 m)) from RH.out.one 0 (by simp)).cell (i := 0) (show 0 < 6 by first | decide | assumption | omega)
  have a1 : w1.cell? ⟨w.heap.size, 1, none⟩ = some (.int .i64 m.bb) := (show World.rowIs w1 (w.heap.size) 23 (6) (lv (M6 m)) from RH.out.one 0 (by simp)).cell (i := 1) (show 1 < 6 by first | decide | assumption | omega)
  have a2 : w1.cell? ⟨w.heap.size, 2, none⟩ = some (.int .i64 m.cc) := (show World.rowIs w1 (w.heap.size) 23 (6) (lv (M6 m)) from RH.out.one 0 (by simp)).cell (i := 2) (show 2 < 6 by first | decide | assumption | omega)
  have a3 : w1.cell? ⟨w.heap.size, 3, none⟩ = some (.int .i64 m.bc) := (show World.rowIs w1 (w.heap.size) 23 (6) (lv (M6 m)) from RH.out.one 0 (by simp)).cell (i := 3) (show 3 < 6 by first | decide | assumption | omega)
  have a4 : w1.cell? ⟨w.heap.size, 4, none⟩ = some (.int .i64 m.ac) := (show World.rowIs w1 (w.heap.size) 23 (6) (lv (M6 m)) from RH.out.one 0 (by simp)).cell (i := 4) (show 4 < 6 by first | decide | assumption | omega)
  have a5 : w1.cell? ⟨w.heap.size, 5, none⟩ = some (.int .i64 m.ab) := (show World.rowIs w1 (w.heap.size) 23 (6) (lv (M6 m)) from RH.out.one 0 (by simp)).cell (i := 5) (show 5 < 6 by first | decide | assumption | omega)
  have la : w.heap.size < w1.heap.size := (show World.rowIs w1 (w.heap.size) 23 (6) (lv (M6 m)) from RH.out.one 0 (by simp)).lt
  go_wp2_with fail
  refine (LD.out _).mono ?_
  rintro e w2 ⟨rfl, hb⟩
  have hbx := hb
  replace RH := Lib.hid (show Has [⟨w.heap.size, 23, 6, lv (M6 m)⟩, ⟨w.heap.size + 1, 23, 6, lv Z6⟩, ⟨w.heap.size + 1 + 1, 26, 9, lv Z9⟩] w2 from RH.out.step hbx)
  replace HB := Lib.hid (HB.out.trans (hbx.mono HB.out.size))
  clear hbx hb
  clear a0 a1 a2 a3 a4 a5 la
  go_wp2_with fail
  refine (rone_any _ _).mono ?_
  rintro e w3 ⟨rfl, hb⟩
  have hbx := hb
  replace RH := Lib.hid (show Has [⟨w.heap.size, 23, 6, lv (M6 m)⟩, ⟨w.heap.size + 1, 23, 6, lv Z6⟩, ⟨w.heap.size + 1 + 1, 26, 9, lv Z9⟩] w3 from RH.out.step hbx)
  replace HB := Lib.hid (HB.out.trans (hbx.mono HB.out.size))
  clear hbx hb
  clear E LD
  go_wp2
  obtain ⟨bf, ebf⟩ : ∃ b, b = w3.heap.size := ⟨_, rfl⟩
  have hwb := HB.out.size
  have hlq := (show World.rowIs w3 (w.heap.size + 1 + 1) 26 9 (lv Z9) from RH.out.one 2 (by simp)).lt
  rw [← ebf]
  have t1 : World.rowIs ((w3.alloc (.cells #[.int .i64 (lf m 0), .int .i64 (lf m 1), .int .i64 (lf m 2), .int .i64 (lf m 3), .int .i64 (lf m 4), .int .i64 (lf m 5), .int .i64 (lf m 6), .int .i64 (lf m 7), .int .i64 (lf m 8), .int .i64 (lf m 9), .int .i64 (lf m 10), .int .i64 (lf m 11), .int .i64 (lf m 12), .int .i64 (lf m 13), .int .i64 (lf m 14), .int .i64 (lf m 15)] 87)).alloc (.cells #[.int .i64 1, .int .i64 0, .int .i64 0, .int .i64 0, .int .i64 1, .int .i64 0, .int .i64 0, .int .i64 0, .int .i64 1] 26)) (bf + 1) 26 9 (lv (F9 (al m 0))) := by
    have := alloc_lv (w3.alloc (.cells #[.int .i64 (lf m 0), .int .i64 (lf m 1), .int .i64 (lf m 2), .int .i64 (lf m 3), .int .i64 (lf m 4), .int .i64 (lf m 5), .int .i64 (lf m 6), .int .i64 (lf m 7), .int .i64 (lf m 8), .int .i64 (lf m 9), .int .i64 (lf m 10), .int .i64 (lf m 11), .int .i64 (lf m 12), .int .i64 (lf m 13), .int .i64 (lf m 14), .int .i64 (lf m 15)] 87)) (F9 one) 26
    simp only [World.size_alloc] at this
    rw [ebf]; exact this
  have t2 : World.rowIs ((w3.alloc (.cells #[.int .i64 (lf m 0), .int .i64 (lf m 1), .int .i64 (lf m 2), .int .i64 (lf m 3), .int .i64 (lf m 4), .int .i64 (lf m 5), .int .i64 (lf m 6), .int .i64 (lf m 7), .int .i64 (lf m 8), .int .i64 (lf m 9), .int .i64 (lf m 10), .int .i64 (lf m 11), .int .i64 (lf m 12), .int .i64 (lf m 13), .int .i64 (lf m 14), .int .i64 (lf m 15)] 87)).alloc (.cells #[.int .i64 1, .int .i64 0, .int .i64 0, .int .i64 0, .int .i64 1, .int .i64 0, .int .i64 0, .int .i64 0, .int .i64 1] 26)) bf 87 16 (lv (F16 (it m 0))) := by
    rw [ebf]; exact (alloc_lv w3 (F16 m) 87).alloc _
  have HAS := RH.out.tail.step (show Below w3.heap.size w3 ((w3.alloc (.cells #[.int .i64 (lf m 0), .int .i64 (lf m 1), .int .i64 (lf m 2), .int .i64 (lf m 3), .int .i64 (lf m 4), .int .i64 (lf m 5), .int .i64 (lf m 6), .int .i64 (lf m 7), .int .i64 (lf m 8), .int .i64 (lf m 9), .int .i64 (lf m 10), .int .i64 (lf m 11), .int .i64 (lf m 12), .int .i64 (lf m 13), .int .i64 (lf m 14), .int .i64 (lf m 15)] 87)).alloc (.cells #[.int .i64 1, .int .i64 0, .int .i64 0, .int .i64 0, .int .i64 1, .int .i64 0, .int .i64 0, .int .i64 0, .int .i64 1] 26)) from (by repeat (first | assumption | exact Below.refl _ _ | refine below_drewN ?_ _ | refine Below.drew ?_ | refine Below.alloc ?_ (by first | (simp; done) | (simp; omega) | omega) _ | refine Below.setCell ?_ (by first | (simp; done) | (simp; omega) | omega) _)))
  refine wp_abs (fun X => Has [⟨bf, 87, 16, lv (F16 (it m 0))⟩, ⟨bf + 1, 26, 9, lv (F9 (al m 0))⟩, ⟨w.heap.size + 1, 23, 6, lv Z6⟩, ⟨w.heap.size + 1 + 1, 26, 9, lv Z9⟩] X ∧ Below w.heap.size w X) ⟨.cons t2 (.cons t1 HAS), HB.out.trans (Below.mono (show Below w3.heap.size w3 ((w3.alloc (.cells #[.int .i64 (lf m 0), .int .i64 (lf m 1), .int .i64 (lf m 2), .int .i64 (lf m 3), .int .i64 (lf m 4), .int .i64 (lf m 5), .int .i64 (lf m 6), .int .i64 (lf m 7), .int .i64 (lf m 8), .int .i64 (lf m 9), .int .i64 (lf m 10), .int .i64 (lf m 11), .int .i64 (lf m 12), .int .i64 (lf m 13), .int .i64 (lf m 14), .int .i64 (lf m 15)] 87)).alloc (.cells #[.int .i64 1, .int .i64 0, .int .i64 0, .int .i64 0, .int .i64 1, .int .i64 0, .int .i64 0, .int .i64 0, .int .i64 1] 26)) from (by repeat (first | assumption | exact Below.refl _ _ | refine below_drewN ?_ _ | refine Below.drew ?_ | refine Below.alloc ?_ (by first | (simp; done) | (simp; omega) | omega) _ | refine Below.setCell ?_ (by first | (simp; done) | (simp; omega) | omega) _))) HB.out.size)⟩ ?_
  intro w4 hX
  have R0 := Lib.hid hX.1; have B0 := Lib.hid hX.2
  rw [← ebf] at hlq hwb
  clear hX RH HB HAS t1 t2 ebf
  go_loopw [9] (fun i wr => ∃ k : Nat, k ≤ N ∧ i = .int .i64 k ∧ Has [⟨bf, 87, 16, lv (F16 (it m k))⟩, ⟨bf + 1, 26, 9, lv (F9 (al m k))⟩, ⟨w.heap.size + 1, 23, 6, lv Z6⟩, ⟨w.heap.size + 1 + 1, 26, 9, lv Z9⟩] wr ∧ Below w.heap.size w wr) (fun i _ => N - (intOf i).toNat)
  case atStart => exact ⟨0, Nat.zero_le _, rfl, R0.out, B0.out⟩
  case round =>
    obtain ⟨k, hk, rfl, hrh, hhb⟩ := hrel
    clear R0 B0
    obtain ⟨mk, emk⟩ : ∃ x, x = it m k := ⟨_, rfl⟩
    obtain ⟨pk, epk⟩ : ∃ x, x = al m k := ⟨_, rfl⟩
    rw [← emk, ← epk] at hrh
    have rs := fun w => rstep_lf mk w
    have hp := pick_le mk
    by_cases hp6 : pick mk < 6
    · rw [decide_eq_true hp6] at rs
      have hkN : k < N := by
        rcases Nat.lt_or_ge k N with q | q
        · exact q
        · exfalso
          obtain rfl : N = k := by omega
          rw [emk] at hp6
          omega
      refine DocObtuse_A mk (nx (pick mk) mk) pk (qk (pick mk)) (mulW pk (qk (pick mk))) k bf (by omega) w wr _ _ _ _ _ _ _ _ _ _ _ _ _ _ _ _ _ _ _ _ _ _ _ _ _ _ _ _ hlq hrh hhb rs (fun w => rmul_M pk (qk (pick mk)) w) _ _ ?_
      intro vu10 vu11 vu12 vu23 vu24 vu25 vu26 vu27 vu28 vu29 vu30 vu31 vu32 vu33 vu34 vu35 vu36 vu37 vu38 vu39 vu40 X h1 h2
      rw [emk, epk] at h1
      go_roundw
      case rel => (repeat apply Exists.intro); exact ⟨⟨k + 1, by omega, by go_num, h1, h2⟩, rfl⟩
      case measure => simp [intOf]; omega
    · rw [decide_eq_false hp6] at rs
      obtain rfl : N = k := by
        rcases Nat.lt_or_ge k N with q | q
        · have := hl k q
          rw [← emk] at this
          omega
        · omega
      subst emk epk
      exact DocObtuse_B _ _ _ _ N bf (by omega) w wr _ _ _ _ _ _ _ _ _ _ _ _ _ _ _ _ _ _ _ _ _ _ _ _ _ _ _ _ hlq hrh hhb rs (fun w => rmet_lf _ (EW.out N hk) w) _

end Go.Proofs.Ytdhlkhockpblhaa
