/-
  The sums of products themselves.
-/
import Derived.Test.YtjmhnmlmnlefaaaNttAR
namespace Go.Proofs.Ytjmhnmlmnlefaaa
open Go.RowKit Go.Lib
attribute [local irreducible] World.setCell
set_option linter.unusedSimpArgs false
set_option linter.unusedVariables false


@[go_sem] theorem idx0 (a b c : Int) (w : World) : (Instr.index 23 (.agg #[.int .i64 a, .int .i64 b, .int .i64 c]) (.int .i64 0)).run Try.prog w = .ok (.int .i64 a) w := by kernel_rfl
@[go_sem] theorem idx1 (a b c : Int) (w : World) : (Instr.index 23 (.agg #[.int .i64 a, .int .i64 b, .int .i64 c]) (.int .i64 1)).run Try.prog w = .ok (.int .i64 b) w := by kernel_rfl
@[go_sem] theorem idx2 (a b c : Int) (w : World) : (Instr.index 23 (.agg #[.int .i64 a, .int .i64 b, .int .i64 c]) (.int .i64 2)).run Try.prog w = .ok (.int .i64 c) w := by kernel_rfl
theorem alloc_below (W : World) (o : Obj) : Below W.heap.size W (W.alloc o) := (Below.refl _ _).alloc (Nat.le_refl _) o
theorem sub_mod {t x n : Nat} (ht : t < n) (hx : x < n) : ((t : Int) - (x : Int)) % (n : Int) = (((t + (n - x)) % n : Nat) : Int) := by
  rw [Int.natCast_emod, Int.natCast_add, Int.natCast_sub (Nat.le_of_lt hx), show (t : Int) + ((n : Int) - (x : Int)) = (t : Int) - x + n by omega, Int.add_emod_right]
theorem rounds_abs {P : Program} {c : Code} {Q : Exit → Act → World → Prop} {k : Nat} {a : Act} {w : World} (S : World → Prop) (h : S w) (kk : ∀ w', S w' → Code.rounds P c Q k a w') : Code.rounds P c Q k a w := kk w h
theorem mul98 {a b : Int} (ha : -98304 ≤ a ∧ a ≤ 98304) (hb : -98304 ≤ b ∧ b ≤ 98304) : -9663676416 ≤ a * b ∧ a * b ≤ 9663676416 := by
  have h := Nat.mul_le_mul (show a.natAbs ≤ 98304 by omega) (show b.natAbs ≤ 98304 by omega)
  rw [← Int.natAbs_mul] at h
  omega
theorem among_sub {t x n : Nat} (w : World) (ht : t < n) (hx : x < n) (hn : n ≤ 192) : Calls Try.prog 53 #[.int .i64 ((t : Int) - (x : Int)), .int .i64 n] w fun e w' => e = .returned (.int .i64 ((t + (n - x)) % n : Nat)) ∧ w = w' := by
  have h := among_any ((t : Int) - (x : Int)) n w (by omega) hn
  rw [sub_mod ht hx] at h
  exact h
set_option maxHeartbeats 16000000 in
set_option maxRecDepth 100000 in
theorem folded_any (n0 n1 n2 L ba oa ca bb ob cb u : Nat) (V W : Nat → Int) (w : World) (hr : rightB n0 = true ∧ rightB n1 = true ∧ rightB n2 = true) (hL : L = n0 * n1 * n2) (hLb : L ≤ 600) (hu : u < L) (hba : ba < w.heap.size) (hbb : bb < w.heap.size)
    (hV : ∀ i, i < L → w.cell? ⟨ba, oa + i, none⟩ = some (.int .i64 (V i))) (hVb : ∀ i, -98304 ≤ V i ∧ V i ≤ 98304) (hW : ∀ i, i < L → w.cell? ⟨bb, ob + i, none⟩ = some (.int .i64 (W i))) (hWb : ∀ i, -98304 ≤ W i ∧ W i ≤ 98304) :
    Calls Try.prog 35 #[.agg #[.int .i64 n0, .int .i64 n1, .int .i64 n2, .slice (some ⟨ba, oa, none⟩) L ca], .agg #[.int .i64 n0, .int .i64 n1, .int .i64 n2, .slice (some ⟨bb, ob, none⟩) L cb], .int .i64 u] w fun e w' => e = .returned (.int .i64 (foldZ n0 n1 n2 V W u)) ∧ Below w.heap.size w w' := by
  have HBX := Lib.hid (box_of hr hL (by omega))
  have HU := Lib.hid hu; have HV := Lib.hid hV; have HVB := Lib.hid hVb; have HW := Lib.hid hW; have HWB := Lib.hid hWb; have HBA := Lib.hid hba; have HBB := Lib.hid hbb
  have hLi : (L : Int) ≤ 600 := by omega
  have hul : u ≤ 600 := by omega
  clear hr hL hu hba hbb hV hVb hW hWb
  go_enter Try.func35, Try.ntmps35
  go_wp2
  refine wp_abs (fun X => (Has [⟨w.heap.size + 1 + 1, 23, 3, v3 n0 n1 n2⟩, ⟨w.heap.size, 26, 4, v4 n0 n1 n2 (.slice (some ⟨ba, oa, none⟩) L ca)⟩, ⟨w.heap.size + 1, 26, 4, v4 n0 n1 n2 (.slice (some ⟨bb, ob, none⟩) L cb)⟩] X) ∧ Below w.heap.size w X) ⟨.cons ?_ (.cons (((v4_row w n0 n1 n2 (.slice (some ⟨ba, oa, none⟩) L ca)).alloc _).alloc _) (.cons ?_ (.nil _))), (by repeat (first | assumption | exact Below.refl _ _ | refine below_drewN ?_ _ | refine Below.drew ?_ | refine Below.alloc ?_ (by first | (simp; done) | (simp; omega) | omega) _ | refine Below.setCell ?_ (by first | (simp; done) | (simp; omega) | omega) _))⟩ ?_
  · have := v3_row ((w.alloc (.cells #[.int .i64 n0, .int .i64 n1, .int .i64 n2, .slice (some ⟨ba, oa, none⟩) L ca] 26)).alloc (.cells #[.int .i64 n0, .int .i64 n1, .int .i64 n2, .slice (some ⟨bb, ob, none⟩) L cb] 26)) n0 n1 n2
    simp only [World.size_alloc] at this
    exact this
  · have := v4_row (w.alloc (.cells #[.int .i64 n0, .int .i64 n1, .int .i64 n2, .slice (some ⟨ba, oa, none⟩) L ca] 26)) n0 n1 n2 (.slice (some ⟨bb, ob, none⟩) L cb)
    simp only [World.size_alloc] at this
    exact this.alloc _
  intro W1 hX
  have RH1 := Lib.hid hX.1; have HB1 := Lib.hid hX.2
  clear hX
  go_loopw [8, 9] (fun s y wr => ∃ i : Nat, i ≤ L ∧ y = .int .i64 i ∧ s = .int .i64 (sz i (fun a => V a * W (sb n0 n1 n2 u a))) ∧ (Has [⟨w.heap.size + 1 + 1, 23, 3, v3 n0 n1 n2⟩, ⟨w.heap.size, 26, 4, v4 n0 n1 n2 (.slice (some ⟨ba, oa, none⟩) L ca)⟩, ⟨w.heap.size + 1, 26, 4, v4 n0 n1 n2 (.slice (some ⟨bb, ob, none⟩) L cb)⟩] wr) ∧ Below w.heap.size w wr) (fun _ y _ => L - (RowKit.intOf y).toNat)
  case atStart => exact ⟨0, Nat.zero_le _, rfl, rfl, RH1.out, HB1.out⟩
  case round =>
    obtain ⟨i, hi, rfl, rfl, hrh, hhb⟩ := hrel
    have RH := Lib.hid hrh; have HB := Lib.hid hhb
    clear hrh hhb RH1 HB1
    obtain ⟨s, es⟩ : ∃ s, s = sz i (fun a => V a * W (sb n0 n1 n2 u a)) := ⟨_, rfl⟩
    rw [← es]
    have ES := Lib.hid es
    clear es
    have a3 : wr.cell? ⟨w.heap.size, 3, none⟩ = some (.slice (some ⟨ba, oa, none⟩) L ca) := (show World.rowIs wr (w.heap.size) 26 (4) (v4 n0 n1 n2 (.slice (some ⟨ba, oa, none⟩) L ca)) from RH.out.one 1 (by simp)).cell (i := 3) (show 3 < 4 by first | decide | assumption | omega)
    have la : w.heap.size < wr.heap.size := (show World.rowIs wr (w.heap.size) 26 (4) (v4 n0 n1 n2 (.slice (some ⟨ba, oa, none⟩) L ca)) from RH.out.one 1 (by simp)).lt
    by_cases hiL : i < L
    · have hil : (i : Int) < (L : Int) := by omega
      have m0 : wr.cell? ⟨w.heap.size + 1 + 1, 0, none⟩ = some (.int .i64 n0) := (show World.rowIs wr (w.heap.size + 1 + 1) 23 (3) (v3 n0 n1 n2) from RH.out.one 0 (by simp)).cell (i := 0) (show 0 < 3 by first | decide | assumption | omega)
      have m1 : wr.cell? ⟨w.heap.size + 1 + 1, 1, none⟩ = some (.int .i64 n1) := (show World.rowIs wr (w.heap.size + 1 + 1) 23 (3) (v3 n0 n1 n2) from RH.out.one 0 (by simp)).cell (i := 1) (show 1 < 3 by first | decide | assumption | omega)
      have m2 : wr.cell? ⟨w.heap.size + 1 + 1, 2, none⟩ = some (.int .i64 n2) := (show World.rowIs wr (w.heap.size + 1 + 1) 23 (3) (v3 n0 n1 n2) from RH.out.one 0 (by simp)).cell (i := 2) (show 2 < 3 by first | decide | assumption | omega)
      have lm : w.heap.size + 1 + 1 < wr.heap.size := (show World.rowIs wr (w.heap.size + 1 + 1) 23 (3) (v3 n0 n1 n2) from RH.out.one 0 (by simp)).lt
      go_wp2
      have HOLD := Lib.hid (show ∀ r : Row, r ∈ ([⟨w.heap.size + 1 + 1, 23, 3, v3 n0 n1 n2⟩, ⟨w.heap.size, 26, 4, v4 n0 n1 n2 (.slice (some ⟨ba, oa, none⟩) L ca)⟩, ⟨w.heap.size + 1, 26, 4, v4 n0 n1 n2 (.slice (some ⟨bb, ob, none⟩) L cb)⟩] : List Row) → r.g < wr.heap.size from RH.out.lt)
      obtain ⟨D0, eD0⟩ : ∃ d, d = wr.heap.size := ⟨_, rfl⟩
      rw [← eD0]
      have RHd := Lib.hid (show Has [⟨D0, 23, 3, v3 0 0 0⟩, ⟨w.heap.size + 1 + 1, 23, 3, v3 n0 n1 n2⟩, ⟨w.heap.size, 26, 4, v4 n0 n1 n2 (.slice (some ⟨ba, oa, none⟩) L ca)⟩, ⟨w.heap.size + 1, 26, 4, v4 n0 n1 n2 (.slice (some ⟨bb, ob, none⟩) L cb)⟩] (wr.alloc (.cells #[.int .i64 0, .int .i64 0, .int .i64 0] 23)) from .cons (by rw [eD0]; exact v3_row wr 0 0 0) (RH.out.step (alloc_below _ _)))
      have HBd := Lib.hid (show Below w.heap.size w (wr.alloc (.cells #[.int .i64 0, .int .i64 0, .int .i64 0] 23)) from HB.out.trans (Below.mono (alloc_below _ _) HB.out.size))
      have hwd : w.heap.size ≤ D0 := by rw [eD0]; exact HB.out.size
      have HO := Lib.hid (show ∀ r : Row, r ∈ ([⟨w.heap.size + 1 + 1, 23, 3, v3 n0 n1 n2⟩, ⟨w.heap.size, 26, 4, v4 n0 n1 n2 (.slice (some ⟨ba, oa, none⟩) L ca)⟩, ⟨w.heap.size + 1, 26, 4, v4 n0 n1 n2 (.slice (some ⟨bb, ob, none⟩) L cb)⟩] : List Row) → r.g ≠ D0 from fun r hr => by have := HOLD.out r hr; rw [eD0]; omega)
      refine wp_abs (fun X => (Has [⟨D0, 23, 3, v3 0 0 0⟩, ⟨w.heap.size + 1 + 1, 23, 3, v3 n0 n1 n2⟩, ⟨w.heap.size, 26, 4, v4 n0 n1 n2 (.slice (some ⟨ba, oa, none⟩) L ca)⟩, ⟨w.heap.size + 1, 26, 4, v4 n0 n1 n2 (.slice (some ⟨bb, ob, none⟩) L cb)⟩] X) ∧ Below w.heap.size w X) ⟨RHd.out, HBd.out⟩ ?_
      intro V0 hX
      have RH0 := Lib.hid hX.1; have HB0 := Lib.hid hX.2
      clear hX RHd HBd RH HB HOLD eD0 a3 la m0 m1 m2 lm
      obtain ⟨x0, ex0⟩ : ∃ x, x = at0 n1 n2 i := ⟨_, rfl⟩
      obtain ⟨x1, ex1⟩ : ∃ x, x = at1 n1 n2 i := ⟨_, rfl⟩
      obtain ⟨x2, ex2⟩ : ∃ x, x = at2 n2 i := ⟨_, rfl⟩
      obtain ⟨t0, et0⟩ : ∃ x, x = at0 n1 n2 u := ⟨_, rfl⟩
      obtain ⟨t1, et1⟩ : ∃ x, x = at1 n1 n2 u := ⟨_, rfl⟩
      obtain ⟨t2, et2⟩ : ∃ x, x = at2 n2 u := ⟨_, rfl⟩
      have xb : x0 < n0 ∧ x1 < n1 ∧ x2 < n2 := ⟨ex0 ▸ at0_lt (by rw [← HBX.out.hL]; exact hiL), ex1 ▸ at1_lt HBX.out.h1.1, ex2 ▸ at2_lt HBX.out.h2.1⟩
      have tb : t0 < n0 ∧ t1 < n1 ∧ t2 < n2 := ⟨et0 ▸ at0_lt (by rw [← HBX.out.hL]; exact HU.out), et1 ▸ at1_lt HBX.out.h1.1, et2 ▸ at2_lt HBX.out.h2.1⟩
      have CI := Lib.hid (fun w' => ex0 ▸ ex1 ▸ ex2 ▸ corner_any n0 n1 n2 i w' ⟨HBX.out.h1.1, HBX.out.h1.2.2⟩ ⟨HBX.out.h2.1, HBX.out.h2.2.2⟩ (by omega))
      have CU := Lib.hid (fun w' => et0 ▸ et1 ▸ et2 ▸ corner_any n0 n1 n2 u w' ⟨HBX.out.h1.1, HBX.out.h1.2.2⟩ ⟨HBX.out.h2.1, HBX.out.h2.2.2⟩ (by omega))
      have h0 := HBX.out.h0; have h1 := HBX.out.h1; have h2 := HBX.out.h2
      obtain ⟨d0, ed0⟩ : ∃ d, d = (t0 + (n0 - x0)) % n0 := ⟨_, rfl⟩
      have AM0 := Lib.hid (fun w' => ed0 ▸ among_sub (t := t0) (x := x0) (n := n0) w' tb.1 xb.1 h0.2.2)
      have sw0 : IntKind.i64.wrap ((t0 : Int) - (x0 : Int)) = (t0 : Int) - (x0 : Int) := IntWalk.i64_in _ (by omega)
      obtain ⟨d1, ed1⟩ : ∃ d, d = (t1 + (n1 - x1)) % n1 := ⟨_, rfl⟩
      have AM1 := Lib.hid (fun w' => ed1 ▸ among_sub (t := t1) (x := x1) (n := n1) w' tb.2.1 xb.2.1 h1.2.2)
      have sw1 : IntKind.i64.wrap ((t1 : Int) - (x1 : Int)) = (t1 : Int) - (x1 : Int) := IntWalk.i64_in _ (by omega)
      obtain ⟨d2, ed2⟩ : ∃ d, d = (t2 + (n2 - x2)) % n2 := ⟨_, rfl⟩
      have AM2 := Lib.hid (fun w' => ed2 ▸ among_sub (t := t2) (x := x2) (n := n2) w' tb.2.2 xb.2.2 h2.2.2)
      have sw2 : IntKind.i64.wrap ((t2 : Int) - (x2 : Int)) = (t2 : Int) - (x2 : Int) := IntWalk.i64_in _ (by omega)
      have HSB := Lib.hid (show (d0 * n1 + d1) * n2 + d2 = sb n0 n1 n2 u i by unfold sb enc; rw [← ex0, ← ex1, ← ex2, ← et0, ← et1, ← et2, ed0, ed1, ed2])
      have db : d0 < n0 ∧ d1 < n1 ∧ d2 < n2 := ⟨by rw [ed0]; exact Nat.mod_lt _ h0.1, by rw [ed1]; exact Nat.mod_lt _ h1.1, by rw [ed2]; exact Nat.mod_lt _ h2.1⟩
      clear ex0 ex1 ex2 et0 et1 et2 ed0 ed1 ed2
      have hnb : (n0 : Int) ≤ 192 ∧ (n1 : Int) ≤ 192 ∧ (n2 : Int) ≤ 192 := by omega
      have xi : (x0 : Int) < n0 ∧ (x1 : Int) < n1 ∧ (x2 : Int) < n2 := by omega
      have ti : (t0 : Int) < n0 ∧ (t1 : Int) < n1 ∧ (t2 : Int) < n2 := by omega
      obtain ⟨hnb0, hnb1, hnb2⟩ := hnb; obtain ⟨xi0, xi1, xi2⟩ := xi; obtain ⟨ti0, ti1, ti2⟩ := ti
      clear h0 h1 h2
      refine wp_loop_rounds 4 ?_
      rw [rounds_succ]
      have m0 : V0.cell? ⟨w.heap.size + 1 + 1, 0, none⟩ = some (.int .i64 n0) := (show World.rowIs V0 (w.heap.size + 1 + 1) 23 (3) (v3 n0 n1 n2) from RH0.out.one 1 (by simp)).cell (i := 0) (show 0 < 3 by first | decide | assumption | omega)
      have m1 : V0.cell? ⟨w.heap.size + 1 + 1, 1, none⟩ = some (.int .i64 n1) := (show World.rowIs V0 (w.heap.size + 1 + 1) 23 (3) (v3 n0 n1 n2) from RH0.out.one 1 (by simp)).cell (i := 1) (show 1 < 3 by first | decide | assumption | omega)
      have m2 : V0.cell? ⟨w.heap.size + 1 + 1, 2, none⟩ = some (.int .i64 n2) := (show World.rowIs V0 (w.heap.size + 1 + 1) 23 (3) (v3 n0 n1 n2) from RH0.out.one 1 (by simp)).cell (i := 2) (show 2 < 3 by first | decide | assumption | omega)
      have lm : w.heap.size + 1 + 1 < V0.heap.size := (show World.rowIs V0 (w.heap.size + 1 + 1) 23 (3) (v3 n0 n1 n2) from RH0.out.one 1 (by simp)).lt
      have ld : D0 < V0.heap.size := (show World.rowIs V0 (D0) 23 (3) (v3 0 0 0) from RH0.out.one 0 (by simp)).lt
      have fd : V0.frozen? ⟨D0, 0, none⟩ = false := (show World.rowIs V0 (D0) 23 (3) (v3 0 0 0) from RH0.out.one 0 (by simp)).frozen 0
      have cd : V0.cell? ⟨D0, 0, none⟩ = some ((v3 0 0 0) 0) := (show World.rowIs V0 (D0) 23 (3) (v3 0 0 0) from RH0.out.one 0 (by simp)).cell (i := 0) (by decide)
      go_wp2
      refine region_head 17 (by kernel_rfl) (by kernel_rfl) ?_
      simp only [List.take_succ_cons, List.take_zero, List.drop_succ_cons, List.drop_zero]
      repeat (go_big_quiet_step ((first | (go_at_call 54; first | with_reducible exact held_of _ (Nat.le_refl _) (CU.out _) | with_reducible exact held_of _ (Nat.le_refl _) (CI.out _)) | (go_at_call 53; with_reducible exact held_of _ (Nat.le_refl _) (same_below (AM0.out _))))))
      refine wpQuiet_nil ?_
      rintro z0 ⟨⟨w0, hb⟩, rfl⟩
      clear m0 m1 m2 lm ld fd cd
      have hbx := hb
      replace RH0 := Lib.hid (show Has [⟨D0, 23, 3, v3 0 0 0⟩, ⟨w.heap.size + 1 + 1, 23, 3, v3 n0 n1 n2⟩, ⟨w.heap.size, 26, 4, v4 n0 n1 n2 (.slice (some ⟨ba, oa, none⟩) L ca)⟩, ⟨w.heap.size + 1, 26, 4, v4 n0 n1 n2 (.slice (some ⟨bb, ob, none⟩) L cb)⟩] z0 from RH0.out.step hbx)
      replace HB0 := Lib.hid (HB0.out.trans (hbx.mono HB0.out.size))
      clear hbx hb
      have fd : z0.frozen? ⟨D0, 0, none⟩ = false := (show World.rowIs z0 (D0) 23 (3) (v3 0 0 0) from RH0.out.one 0 (by simp)).frozen 0
      have cd : z0.cell? ⟨D0, 0, none⟩ = some ((v3 0 0 0) 0) := (show World.rowIs z0 (D0) 23 (3) (v3 0 0 0) from RH0.out.one 0 (by simp)).cell (i := 0) (by decide)
      go_wp2
      refine rounds_abs (fun X => (Has [⟨D0, 23, 3, v3 d0 0 0⟩, ⟨w.heap.size + 1 + 1, 23, 3, v3 n0 n1 n2⟩, ⟨w.heap.size, 26, 4, v4 n0 n1 n2 (.slice (some ⟨ba, oa, none⟩) L ca)⟩, ⟨w.heap.size + 1, 26, 4, v4 n0 n1 n2 (.slice (some ⟨bb, ob, none⟩) L cb)⟩] X) ∧ Below w.heap.size w X) ⟨RH0.out.put 0 _ HO.out (fun i hi => by match i, hi with | 0, _ => rfl | 1, _ => rfl | 2, _ => rfl), HB0.out.setCell hwd _⟩ ?_
      intro V1 hX
      have RHn := Lib.hid hX.1; have HBn := Lib.hid hX.2
      clear hX cd fd RH0 HB0
      have RH0 := RHn; have HB0 := HBn
      clear RHn HBn
      rw [rounds_succ]
      have m0 : V1.cell? ⟨w.heap.size + 1 + 1, 0, none⟩ = some (.int .i64 n0) := (show World.rowIs V1 (w.heap.size + 1 + 1) 23 (3) (v3 n0 n1 n2) from RH0.out.one 1 (by simp)).cell (i := 0) (show 0 < 3 by first | decide | assumption | omega)
      have m1 : V1.cell? ⟨w.heap.size + 1 + 1, 1, none⟩ = some (.int .i64 n1) := (show World.rowIs V1 (w.heap.size + 1 + 1) 23 (3) (v3 n0 n1 n2) from RH0.out.one 1 (by simp)).cell (i := 1) (show 1 < 3 by first | decide | assumption | omega)
      have m2 : V1.cell? ⟨w.heap.size + 1 + 1, 2, none⟩ = some (.int .i64 n2) := (show World.rowIs V1 (w.heap.size + 1 + 1) 23 (3) (v3 n0 n1 n2) from RH0.out.one 1 (by simp)).cell (i := 2) (show 2 < 3 by first | decide | assumption | omega)
      have lm : w.heap.size + 1 + 1 < V1.heap.size := (show World.rowIs V1 (w.heap.size + 1 + 1) 23 (3) (v3 n0 n1 n2) from RH0.out.one 1 (by simp)).lt
      have ld : D0 < V1.heap.size := (show World.rowIs V1 (D0) 23 (3) (v3 d0 0 0) from RH0.out.one 0 (by simp)).lt
      have fd : V1.frozen? ⟨D0, 1, none⟩ = false := (show World.rowIs V1 (D0) 23 (3) (v3 d0 0 0) from RH0.out.one 0 (by simp)).frozen 1
      have cd : V1.cell? ⟨D0, 1, none⟩ = some ((v3 d0 0 0) 1) := (show World.rowIs V1 (D0) 23 (3) (v3 d0 0 0) from RH0.out.one 0 (by simp)).cell (i := 1) (by decide)
      go_wp2
      refine region_head 17 (by kernel_rfl) (by kernel_rfl) ?_
      simp only [List.take_succ_cons, List.take_zero, List.drop_succ_cons, List.drop_zero]
      repeat (go_big_quiet_step ((first | (go_at_call 54; first | with_reducible exact held_of _ (Nat.le_refl _) (CU.out _) | with_reducible exact held_of _ (Nat.le_refl _) (CI.out _)) | (go_at_call 53; with_reducible exact held_of _ (Nat.le_refl _) (same_below (AM1.out _))))))
      refine wpQuiet_nil ?_
      rintro z1 ⟨⟨w0, hb⟩, rfl⟩
      clear m0 m1 m2 lm ld fd cd
      have hbx := hb
      replace RH0 := Lib.hid (show Has [⟨D0, 23, 3, v3 d0 0 0⟩, ⟨w.heap.size + 1 + 1, 23, 3, v3 n0 n1 n2⟩, ⟨w.heap.size, 26, 4, v4 n0 n1 n2 (.slice (some ⟨ba, oa, none⟩) L ca)⟩, ⟨w.heap.size + 1, 26, 4, v4 n0 n1 n2 (.slice (some ⟨bb, ob, none⟩) L cb)⟩] z1 from RH0.out.step hbx)
      replace HB0 := Lib.hid (HB0.out.trans (hbx.mono HB0.out.size))
      clear hbx hb
      have fd : z1.frozen? ⟨D0, 1, none⟩ = false := (show World.rowIs z1 (D0) 23 (3) (v3 d0 0 0) from RH0.out.one 0 (by simp)).frozen 1
      have cd : z1.cell? ⟨D0, 1, none⟩ = some ((v3 d0 0 0) 1) := (show World.rowIs z1 (D0) 23 (3) (v3 d0 0 0) from RH0.out.one 0 (by simp)).cell (i := 1) (by decide)
      go_wp2
      refine rounds_abs (fun X => (Has [⟨D0, 23, 3, v3 d0 d1 0⟩, ⟨w.heap.size + 1 + 1, 23, 3, v3 n0 n1 n2⟩, ⟨w.heap.size, 26, 4, v4 n0 n1 n2 (.slice (some ⟨ba, oa, none⟩) L ca)⟩, ⟨w.heap.size + 1, 26, 4, v4 n0 n1 n2 (.slice (some ⟨bb, ob, none⟩) L cb)⟩] X) ∧ Below w.heap.size w X) ⟨RH0.out.put 1 _ HO.out (fun i hi => by match i, hi with | 0, _ => rfl | 1, _ => rfl | 2, _ => rfl), HB0.out.setCell hwd _⟩ ?_
      intro V2 hX
      have RHn := Lib.hid hX.1; have HBn := Lib.hid hX.2
      clear hX cd fd RH0 HB0
      have RH0 := RHn; have HB0 := HBn
      clear RHn HBn
      rw [rounds_succ]
      have m0 : V2.cell? ⟨w.heap.size + 1 + 1, 0, none⟩ = some (.int .i64 n0) := (show World.rowIs V2 (w.heap.size + 1 + 1) 23 (3) (v3 n0 n1 n2) from RH0.out.one 1 (by simp)).cell (i := 0) (show 0 < 3 by first | decide | assumption | omega)
      have m1 : V2.cell? ⟨w.heap.size + 1 + 1, 1, none⟩ = some (.int .i64 n1) := (show World.rowIs V2 (w.heap.size + 1 + 1) 23 (3) (v3 n0 n1 n2) from RH0.out.one 1 (by simp)).cell (i := 1) (show 1 < 3 by first | decide | assumption | omega)
      have m2 : V2.cell? ⟨w.heap.size + 1 + 1, 2, none⟩ = some (.int .i64 n2) := (show World.rowIs V2 (w.heap.size + 1 + 1) 23 (3) (v3 n0 n1 n2) from RH0.out.one 1 (by simp)).cell (i := 2) (show 2 < 3 by first | decide | assumption | omega)
      have lm : w.heap.size + 1 + 1 < V2.heap.size := (show World.rowIs V2 (w.heap.size + 1 + 1) 23 (3) (v3 n0 n1 n2) from RH0.out.one 1 (by simp)).lt
      have ld : D0 < V2.heap.size := (show World.rowIs V2 (D0) 23 (3) (v3 d0 d1 0) from RH0.out.one 0 (by simp)).lt
      have fd : V2.frozen? ⟨D0, 2, none⟩ = false := (show World.rowIs V2 (D0) 23 (3) (v3 d0 d1 0) from RH0.out.one 0 (by simp)).frozen 2
      have cd : V2.cell? ⟨D0, 2, none⟩ = some ((v3 d0 d1 0) 2) := (show World.rowIs V2 (D0) 23 (3) (v3 d0 d1 0) from RH0.out.one 0 (by simp)).cell (i := 2) (by decide)
      go_wp2
      refine region_head 17 (by kernel_rfl) (by kernel_rfl) ?_
      simp only [List.take_succ_cons, List.take_zero, List.drop_succ_cons, List.drop_zero]
      repeat (go_big_quiet_step ((first | (go_at_call 54; first | with_reducible exact held_of _ (Nat.le_refl _) (CU.out _) | with_reducible exact held_of _ (Nat.le_refl _) (CI.out _)) | (go_at_call 53; with_reducible exact held_of _ (Nat.le_refl _) (same_below (AM2.out _))))))
      refine wpQuiet_nil ?_
      rintro z2 ⟨⟨w0, hb⟩, rfl⟩
      clear m0 m1 m2 lm ld fd cd
      have hbx := hb
      replace RH0 := Lib.hid (show Has [⟨D0, 23, 3, v3 d0 d1 0⟩, ⟨w.heap.size + 1 + 1, 23, 3, v3 n0 n1 n2⟩, ⟨w.heap.size, 26, 4, v4 n0 n1 n2 (.slice (some ⟨ba, oa, none⟩) L ca)⟩, ⟨w.heap.size + 1, 26, 4, v4 n0 n1 n2 (.slice (some ⟨bb, ob, none⟩) L cb)⟩] z2 from RH0.out.step hbx)
      replace HB0 := Lib.hid (HB0.out.trans (hbx.mono HB0.out.size))
      clear hbx hb
      have fd : z2.frozen? ⟨D0, 2, none⟩ = false := (show World.rowIs z2 (D0) 23 (3) (v3 d0 d1 0) from RH0.out.one 0 (by simp)).frozen 2
      have cd : z2.cell? ⟨D0, 2, none⟩ = some ((v3 d0 d1 0) 2) := (show World.rowIs z2 (D0) 23 (3) (v3 d0 d1 0) from RH0.out.one 0 (by simp)).cell (i := 2) (by decide)
      go_wp2
      refine rounds_abs (fun X => (Has [⟨D0, 23, 3, v3 d0 d1 d2⟩, ⟨w.heap.size + 1 + 1, 23, 3, v3 n0 n1 n2⟩, ⟨w.heap.size, 26, 4, v4 n0 n1 n2 (.slice (some ⟨ba, oa, none⟩) L ca)⟩, ⟨w.heap.size + 1, 26, 4, v4 n0 n1 n2 (.slice (some ⟨bb, ob, none⟩) L cb)⟩] X) ∧ Below w.heap.size w X) ⟨RH0.out.put 2 _ HO.out (fun i hi => by match i, hi with | 0, _ => rfl | 1, _ => rfl | 2, _ => rfl), HB0.out.setCell hwd _⟩ ?_
      intro V3 hX
      have RHn := Lib.hid hX.1; have HBn := Lib.hid hX.2
      clear hX cd fd RH0 HB0
      have RH0 := RHn; have HB0 := HBn
      clear RHn HBn
      rw [rounds_succ]
      clear AM0 sw0
      clear AM1 sw1
      clear AM2 sw2
      clear CI CU
      obtain ⟨nk, ek⟩ : ∃ k, k = (d0 * n1 + d1) * n2 + d2 := ⟨_, rfl⟩
      have HSP := Lib.hid (fun w' => ek ▸ spot_any n0 n1 n2 d0 d1 d2 w' HBX.out.h1.2.2 HBX.out.h2.2.2 (by omega) (by omega) (by omega))
      have hnk : nk = sb n0 n1 n2 u i := by rw [ek]; exact HSB.out
      have hnL : nk < L := by rw [hnk, HBX.out.hL]; exact sb_lt HBX.out.h0.1 HBX.out.h1.1 HBX.out.h2.1 u i
      have HNK := Lib.hid hnk
      clear ek hnk HSB
      obtain ⟨x, ex⟩ : ∃ x, x = V i := ⟨_, rfl⟩
      obtain ⟨y, ey⟩ : ∃ x, x = W nk := ⟨_, rfl⟩
      have cx : V3.cell? ⟨ba, oa + i, none⟩ = some (.int .i64 x) := by rw [ex]; exact (HB0.out.cell (p := ⟨ba, oa + i, none⟩) HBA.out).trans (HV.out i hiL)
      have cy : V3.cell? ⟨bb, ob + nk, none⟩ = some (.int .i64 y) := by rw [ey]; exact (HB0.out.cell (p := ⟨bb, ob + nk, none⟩) HBB.out).trans (HW.out nk hnL)
      have lba : ba < V3.heap.size := Nat.lt_of_lt_of_le HBA.out HB0.out.size
      have lbb : bb < V3.heap.size := Nat.lt_of_lt_of_le HBB.out HB0.out.size
      have hxb := HVB.out i
      have hyb := HWB.out nk
      rw [← ex] at hxb
      rw [← ey] at hyb
      have hpb := mul98 hxb hyb
      have hsb := sz_bound (n := i) (f := fun a => V a * W (sb n0 n1 n2 u a)) (K := 9663676416) (fun a _ => mul98 (HVB.out a) (HWB.out _))
      rw [← ES.out] at hsb
      have ESN := Lib.hid (show s + x * y = sz (i + 1) (fun a => V a * W (sb n0 n1 n2 u a)) by show _ = sz i _ + V i * W (sb n0 n1 n2 u i); rw [← ES.out, ex, ey, HNK.out])
      obtain ⟨p, ep⟩ : ∃ p, p = x * y := ⟨_, rfl⟩
      rw [← ep] at hpb ESN
      have w1 : IntKind.i64.wrap (x * y) = p := by rw [← ep]; exact IntWalk.i64_in _ (by omega)
      have w2 : IntKind.i64.wrap (s + p) = s + p := IntWalk.i64_in _ (by omega)
      have hnl : (nk : Int) < (L : Int) := by omega
      have m0 : V3.cell? ⟨w.heap.size + 1 + 1, 0, none⟩ = some (.int .i64 n0) := (show World.rowIs V3 (w.heap.size + 1 + 1) 23 (3) (v3 n0 n1 n2) from RH0.out.one 1 (by simp)).cell (i := 0) (show 0 < 3 by first | decide | assumption | omega)
      have m1 : V3.cell? ⟨w.heap.size + 1 + 1, 1, none⟩ = some (.int .i64 n1) := (show World.rowIs V3 (w.heap.size + 1 + 1) 23 (3) (v3 n0 n1 n2) from RH0.out.one 1 (by simp)).cell (i := 1) (show 1 < 3 by first | decide | assumption | omega)
      have m2 : V3.cell? ⟨w.heap.size + 1 + 1, 2, none⟩ = some (.int .i64 n2) := (show World.rowIs V3 (w.heap.size + 1 + 1) 23 (3) (v3 n0 n1 n2) from RH0.out.one 1 (by simp)).cell (i := 2) (show 2 < 3 by first | decide | assumption | omega)
      have lm : w.heap.size + 1 + 1 < V3.heap.size := (show World.rowIs V3 (w.heap.size + 1 + 1) 23 (3) (v3 n0 n1 n2) from RH0.out.one 1 (by simp)).lt
      have e0 : V3.cell? ⟨D0, 0, none⟩ = some (.int .i64 d0) := (show World.rowIs V3 (D0) 23 (3) (v3 d0 d1 d2) from RH0.out.one 0 (by simp)).cell (i := 0) (show 0 < 3 by first | decide | assumption | omega)
      have e1 : V3.cell? ⟨D0, 1, none⟩ = some (.int .i64 d1) := (show World.rowIs V3 (D0) 23 (3) (v3 d0 d1 d2) from RH0.out.one 0 (by simp)).cell (i := 1) (show 1 < 3 by first | decide | assumption | omega)
      have e2 : V3.cell? ⟨D0, 2, none⟩ = some (.int .i64 d2) := (show World.rowIs V3 (D0) 23 (3) (v3 d0 d1 d2) from RH0.out.one 0 (by simp)).cell (i := 2) (show 2 < 3 by first | decide | assumption | omega)
      have ld : D0 < V3.heap.size := (show World.rowIs V3 (D0) 23 (3) (v3 d0 d1 d2) from RH0.out.one 0 (by simp)).lt
      have a3 : V3.cell? ⟨w.heap.size, 3, none⟩ = some (.slice (some ⟨ba, oa, none⟩) L ca) := (show World.rowIs V3 (w.heap.size) 26 (4) (v4 n0 n1 n2 (.slice (some ⟨ba, oa, none⟩) L ca)) from RH0.out.one 2 (by simp)).cell (i := 3) (show 3 < 4 by first | decide | assumption | omega)
      have la : w.heap.size < V3.heap.size := (show World.rowIs V3 (w.heap.size) 26 (4) (v4 n0 n1 n2 (.slice (some ⟨ba, oa, none⟩) L ca)) from RH0.out.one 2 (by simp)).lt
      have b3 : V3.cell? ⟨w.heap.size + 1, 3, none⟩ = some (.slice (some ⟨bb, ob, none⟩) L cb) := (show World.rowIs V3 (w.heap.size + 1) 26 (4) (v4 n0 n1 n2 (.slice (some ⟨bb, ob, none⟩) L cb)) from RH0.out.one 3 (by simp)).cell (i := 3) (show 3 < 4 by first | decide | assumption | omega)
      have lb : w.heap.size + 1 < V3.heap.size := (show World.rowIs V3 (w.heap.size + 1) 26 (4) (v4 n0 n1 n2 (.slice (some ⟨bb, ob, none⟩) L cb)) from RH0.out.one 3 (by simp)).lt
      clear ex ey ep hxb hyb hpb hsb
      go_wp2
      refine region_all (by kernel_rfl) (by kernel_rfl) ?_
      repeat (go_big_quiet_step ((go_at_call 55; with_reducible exact held_of _ (Nat.le_refl _) (HSP.out _))))
      refine wpQuiet_nil ?_
      rintro z4 ⟨⟨w0, hb⟩, rfl⟩
      clear m0 m1 m2 lm e0 e1 e2 ld a3 la b3 lb cx cy lba lbb w1 w2
      have hbx := hb
      replace RH0 := Lib.hid (show Has [⟨D0, 23, 3, v3 d0 d1 d2⟩, ⟨w.heap.size + 1 + 1, 23, 3, v3 n0 n1 n2⟩, ⟨w.heap.size, 26, 4, v4 n0 n1 n2 (.slice (some ⟨ba, oa, none⟩) L ca)⟩, ⟨w.heap.size + 1, 26, 4, v4 n0 n1 n2 (.slice (some ⟨bb, ob, none⟩) L cb)⟩] z4 from RH0.out.step hbx)
      replace HB0 := Lib.hid (HB0.out.trans (hbx.mono HB0.out.size))
      clear hbx hb
      go_wp2
      go_roundw
      case rel => exact ⟨i + 1, by omega, by go_num, by rw [← ESN.out], RH0.out.tail, HB0.out⟩
      case measure => simp [RowKit.intOf]; omega
    · have hi2 : i = L := by omega
      have EF := Lib.hid (show s = foldZ n0 n1 n2 V W u by rw [ES.out, hi2, HBX.out.hL, fold_sb HBX.out.h1.1 HBX.out.h2.1])
      clear hi2
      go_wp2
      go_ret
      exact ⟨by rw [← EF.out]; rfl, HB.out⟩

end Go.Proofs.Ytjmhnmlmnlefaaa
