/-
  The law ReduceFalls, walked: it returns true.
-/
import Derived.Test.YtdhlkhockpblhaaRedU
import Derived.Test.YtdhlkhockpblhaaRedAw
namespace Go.Proofs.Ytdhlkhockpblhaa
open Go.RowKit
attribute [local irreducible] World.setCell

set_option linter.unusedSimpArgs false
set_option linter.unusedVariables false

@[go_sem] theorem idxs0 (s0 s1 s2 s3 s4 s5 : Int) (w : World) : (Instr.index 43 (.agg #[.int .i64 s0, .int .i64 s1, .int .i64 s2, .int .i64 s3, .int .i64 s4, .int .i64 s5]) (.int .i64 0)).run Try.prog w = .ok (.int .i64 s0) w := by kernel_rfl
@[go_sem] theorem idxs1 (s0 s1 s2 s3 s4 s5 : Int) (w : World) : (Instr.index 43 (.agg #[.int .i64 s0, .int .i64 s1, .int .i64 s2, .int .i64 s3, .int .i64 s4, .int .i64 s5]) (.int .i64 1)).run Try.prog w = .ok (.int .i64 s1) w := by kernel_rfl
@[go_sem] theorem idxs2 (s0 s1 s2 s3 s4 s5 : Int) (w : World) : (Instr.index 43 (.agg #[.int .i64 s0, .int .i64 s1, .int .i64 s2, .int .i64 s3, .int .i64 s4, .int .i64 s5]) (.int .i64 2)).run Try.prog w = .ok (.int .i64 s2) w := by kernel_rfl
@[go_sem] theorem idxs3 (s0 s1 s2 s3 s4 s5 : Int) (w : World) : (Instr.index 43 (.agg #[.int .i64 s0, .int .i64 s1, .int .i64 s2, .int .i64 s3, .int .i64 s4, .int .i64 s5]) (.int .i64 3)).run Try.prog w = .ok (.int .i64 s3) w := by kernel_rfl
@[go_sem] theorem idxs4 (s0 s1 s2 s3 s4 s5 : Int) (w : World) : (Instr.index 43 (.agg #[.int .i64 s0, .int .i64 s1, .int .i64 s2, .int .i64 s3, .int .i64 s4, .int .i64 s5]) (.int .i64 4)).run Try.prog w = .ok (.int .i64 s4) w := by kernel_rfl
@[go_sem] theorem idxs5 (s0 s1 s2 s3 s4 s5 : Int) (w : World) : (Instr.index 43 (.agg #[.int .i64 s0, .int .i64 s1, .int .i64 s2, .int .i64 s3, .int .i64 s4, .int .i64 s5]) (.int .i64 5)).run Try.prog w = .ok (.int .i64 s5) w := by kernel_rfl
theorem six_any (m : Met) (w : World) : Calls Try.prog 18 #[.agg #[.int .i64 m.aa, .int .i64 m.bb, .int .i64 m.cc, .int .i64 m.bc, .int .i64 m.ac, .int .i64 m.ab]] w fun e w' => e = .returned (.agg #[.int .i64 (m.bc), .int .i64 (m.ac), .int .i64 (m.ab), .int .i64 (sx m 3), .int .i64 (sx m 4), .int .i64 (sx m 5)]) ∧ Below w.heap.size w w' := to_v (by simp only [sx, sixE]) (six_raw _ _ _ _ _ _ w)
structure FI (W0 : World) (B bl ba : Nat) (mL mk : Met) (wr : World) : Prop where
  below : Below B W0 wr
  zl : bl < wr.heap.size
  za : ba < wr.heap.size
  l0 : wr.cell? ⟨bl, 0, none⟩ = some (.int .i64 mL.aa)
  a0 : wr.cell? ⟨ba, 0, none⟩ = some (.int .i64 mk.aa)
  l1 : wr.cell? ⟨bl, 1, none⟩ = some (.int .i64 mL.bb)
  a1 : wr.cell? ⟨ba, 1, none⟩ = some (.int .i64 mk.bb)
  l2 : wr.cell? ⟨bl, 2, none⟩ = some (.int .i64 mL.cc)
  a2 : wr.cell? ⟨ba, 2, none⟩ = some (.int .i64 mk.cc)
  l3 : wr.cell? ⟨bl, 3, none⟩ = some (.int .i64 mL.bc)
  a3 : wr.cell? ⟨ba, 3, none⟩ = some (.int .i64 mk.bc)
  l4 : wr.cell? ⟨bl, 4, none⟩ = some (.int .i64 mL.ac)
  a4 : wr.cell? ⟨ba, 4, none⟩ = some (.int .i64 mk.ac)
  l5 : wr.cell? ⟨bl, 5, none⟩ = some (.int .i64 mL.ab)
  a5 : wr.cell? ⟨ba, 5, none⟩ = some (.int .i64 mk.ab)
  fa : ∀ o, wr.frozen? ⟨ba, o, none⟩ = false
theorem wrap_eq' {x y : Int} (h : (x - y) % 18446744073709551616 = 0) : wrap64 x = wrap64 y := by unfold wrap64; omega
theorem nx6_id {m : Met} (h : Chk m) : nx 6 m = m := by
  obtain ⟨aa, bb, cc, bc, ac, ab⟩ := m
  obtain ⟨h1, h2, h3, h4, h5, h6, h7, h8, h9, h10, h11, h12, _, _, _⟩ := h
  dsimp only at *
  simp only [nx, Met.mk.injEq]
  exact ⟨wrapE (by omega) (by omega), wrapE (by omega) (by omega), wrapE (by omega) (by omega), wrapE (by omega) (by omega), wrapE (by omega) (by omega), wrapE (by omega) (by omega)⟩
theorem fall (m : Met) (k : Nat) (hk : k < 6) : wrap64 (sqv m - sqv (nx k m)) = wrap64 (2 * sx m k) := by
  refine wrap_eq' ?_
  rcases (by omega : k = 0 ∨ k = 1 ∨ k = 2 ∨ k = 3 ∨ k = 4 ∨ k = 5) with rfl | rfl | rfl | rfl | rfl | rfl <;> simp only [sqv, sx, sixE, nx] <;> unfold wrap64 <;> omega
/-- What pick says of the six products of a metric that Check lets in. -/
theorem pick_six {m : Met} (h : Chk m) : ∀ k, k < 6 → (k < pick m → sixE m k ≤ 0) ∧ (k = pick m → 0 < sixE m k) := by
  obtain ⟨h1, h2, h3, h4, h5, h6, h7, h8, h9, h10, h11, h12, _, _, _⟩ := h
  have w0 : wrap64 (m.bc) = m.bc := wrapE (by omega) (by omega)
  have w1 : wrap64 (m.ac) = m.ac := wrapE (by omega) (by omega)
  have w2 : wrap64 (m.ab) = m.ab := wrapE (by omega) (by omega)
  have w3 : wrap64 (-m.aa - m.ab - m.ac) = -m.aa - m.ab - m.ac := wrapE (by omega) (by omega)
  have w4 : wrap64 (-m.bb - m.ab - m.bc) = -m.bb - m.ab - m.bc := wrapE (by omega) (by omega)
  have w5 : wrap64 (-m.cc - m.ac - m.bc) = -m.cc - m.ac - m.bc := wrapE (by omega) (by omega)
  intro k hk
  unfold pick
  rw [w0, w1, w2, w3, w4, w5]
  rcases (by omega : k = 0 ∨ k = 1 ∨ k = 2 ∨ k = 3 ∨ k = 4 ∨ k = 5) with rfl | rfl | rfl | rfl | rfl | rfl <;> simp only [sixE] <;> (repeat' split) <;> omega
theorem sx_eq {m : Met} (h : Chk m) (k : Nat) : sx m k = sixE m k := by
  obtain ⟨h1, h2, h3, h4, h5, h6, h7, h8, h9, h10, h11, h12, _, _, _⟩ := h
  unfold sx sixE
  split <;> exact wrapE (by omega) (by omega)

set_option maxHeartbeats 800000 in
theorem falls_bad (m : Met) (C : Int) (w : World) (h : chk m = C) (hC : C ≠ 0):
    Calls Try.prog 5 #[.agg #[.int .i64 m.aa, .int .i64 m.bb, .int .i64 m.cc, .int .i64 m.bc, .int .i64 m.ac, .int .i64 m.ab]] w fun e w' => e = .returned (.bool true) ∧ Below w.heap.size w w' := by
  have hr : resS m = .tuple #[.agg #[.int .i64 0, .int .i64 0, .int .i64 0, .int .i64 0, .int .i64 0, .int .i64 0], .agg #[.int .i64 0, .int .i64 0, .int .i64 0, .int .i64 0, .int .i64 0, .int .i64 0, .int .i64 0, .int .i64 0, .int .i64 0], .bool false, .int .i64 C] := by rw [resS, if_neg (by rw [h]; exact hC), h]
  have A1 := fun w => Obtuse_bad m C w h hC
  have A2 := fun w => to_v hr (Step_all m w)
  have B1 := Lib.hid A1; have B2 := Lib.hid A2; clear A1 A2 hr h
  go_enter Try.func5, Try.ntmps5
  go_wp2_with fail
  refine (awake_any _).mono ?_
  rintro e w1 ⟨rfl, hb1⟩
  obtain ⟨hc1, hf1⟩ := bcell hb1
  have hz1 := hb1.size
  try simp at hz1
  have z1_0 : w.heap.size < w1.heap.size := by omega
  go_wp2_with fail
  go_wp2_with fail
  refine (B1.out _).mono ?_
  rintro e w2 ⟨rfl, hb2⟩
  obtain ⟨hc2, hf2⟩ := bcell hb2
  have hz2 := hb2.size
  try simp at hz2
  have z2_0 : w.heap.size < w2.heap.size := by omega
  go_wp2_with fail
  refine (B2.out _).mono ?_
  rintro e w3 ⟨rfl, hb3⟩
  obtain ⟨hc3, hf3⟩ := bcell hb3
  have hz3 := hb3.size
  try simp at hz3
  have z3_0 : w.heap.size < w3.heap.size := by omega
  have z3_1 : w2.heap.size < w3.heap.size := by omega
  have z3_2 : w2.heap.size + 1 < w3.heap.size := by omega
  go_wp2
  go_ret
  refine ⟨rfl, ?_⟩
  repeat (first | exact Below.refl _ _ | assumption | exact Below.alloc (Below.refl _ _) (Nat.le_refl _) _ | refine Below.setCell ?_ (by first | (simp; done) | (simp; omega) | omega) _ | refine below_drewN ?_ _ | refine Below.alloc ?_ (by first | (simp; done) | (simp; omega) | omega) _ | refine Below.trans ?_ (Below.mono (by assumption) (by first | (simp; done) | (simp; omega) | omega)))

set_option maxHeartbeats 12800000 in
set_option maxRecDepth 100000 in
theorem falls_ok (m : Met) (w : World) (h : chk m = 0):
    Calls Try.prog 5 #[.agg #[.int .i64 m.aa, .int .i64 m.bb, .int .i64 m.cc, .int .i64 m.bc, .int .i64 m.ac, .int .i64 m.ab]] w fun e w' => e = .returned (.bool true) ∧ Below w.heap.size w w' := by
  obtain ⟨N, hN0, hN, hl⟩ := chk_end h
  have A1 := fun w => Obtuse_ok m N (by omega) hN hl w h
  obtain ⟨mL, eL⟩ : ∃ x, x = it m N := ⟨_, rfl⟩
  obtain ⟨pL, epL⟩ : ∃ x, x = al m N := ⟨_, rfl⟩
  rw [← eL, ← epL] at A1
  have B1 := Lib.hid A1; have EL := Lib.hid eL; clear A1 eL epL
  go_enter Try.func5, Try.ntmps5
  go_wp2_with fail
  refine (awake_any _).mono ?_
  rintro e w1 ⟨rfl, hb1⟩
  obtain ⟨hc1, hf1⟩ := bcell hb1
  have hz1 := hb1.size
  try simp at hz1
  have z1_0 : w.heap.size < w1.heap.size := by omega
  go_wp2_with fail
  refine (B1.out _).mono ?_
  rintro e w2 ⟨rfl, hb2⟩
  obtain ⟨hc2, hf2⟩ := bcell hb2
  have hz2 := hb2.size
  try simp at hz2
  have z2_0 : w.heap.size < w2.heap.size := by omega
  go_wp2
  go_loopw [12] (fun i wr => ∃ k : Nat, k ≤ N ∧ i = .int .i64 k ∧ FI w w.heap.size w2.heap.size (w2.heap.size + 1 + 1) mL (it m k) wr) (fun i _ => N - (intOf i).toNat)
  case atStart =>
    refine ⟨0, by omega, rfl, ?_⟩
    constructor
    · repeat (first | exact Below.refl _ _ | assumption | exact Below.alloc (Below.refl _ _) (Nat.le_refl _) _ | refine Below.setCell ?_ (by first | (simp; done) | (simp; omega) | omega) _ | refine below_drewN ?_ _ | refine Below.alloc ?_ (by first | (simp; done) | (simp; omega) | omega) _ | refine Below.trans ?_ (Below.mono (by assumption) (by first | (simp; done) | (simp; omega) | omega)))
    · first | (simp; done) | (simp; omega) | omega
    · first | (simp; done) | (simp; omega) | omega
    all_goals first | (intro o; go_simp; done) | (go_simp; done) | (go_simp; rfl)
  case round =>
    obtain ⟨k, hk, rfl, hinv⟩ := hrel
    obtain ⟨mk, emk⟩ : ∃ x, x = it m k := ⟨_, rfl⟩
    rw [← emk] at hinv
    obtain ⟨hbl, zl, za, l0, a0, l1, a1, l2, a2, l3, a3, l4, a4, l5, a5, fa⟩ := hinv
    have zb := hbl.size
    have EM := Lib.hid emk; clear emk
    have zw : w.heap.size < wr.heap.size := by omega
    have zv : w2.heap.size + 1 < wr.heap.size := by omega
    by_cases hC : chk mk = 0
    · have ck := chk_ok hC
      have EC := Lib.hid hC; clear hC
      go_wp2_with fail
      refine (to_v (congrArg (Value.int .i64) EC.out) (check_any _ _ _ _ _ _ _)).mono ?_
      rintro e w20 ⟨rfl, hb20⟩
      obtain ⟨hc20, hf20⟩ := bcell hb20
      have hz20 := hb20.size
      try simp at hz20
      have z20_0 : w.heap.size < w20.heap.size := by omega
      have z20_1 : w2.heap.size < w20.heap.size := by omega
      have z20_2 : w2.heap.size + 1 < w20.heap.size := by omega
      have z20_3 : w2.heap.size + 1 + 1 < w20.heap.size := by omega
      rcases Nat.lt_or_ge 400 k with hb4 | hb4
      · go_wp2
        go_ret
        refine ⟨rfl, ?_⟩
        repeat (first | exact Below.refl _ _ | assumption | exact Below.alloc (Below.refl _ _) (Nat.le_refl _) _ | refine Below.setCell ?_ (by first | (simp; done) | (simp; omega) | omega) _ | refine below_drewN ?_ _ | refine Below.alloc ?_ (by first | (simp; done) | (simp; omega) | omega) _ | refine Below.trans ?_ (Below.mono (by assumption) (by first | (simp; done) | (simp; omega) | omega)))
      · rcases Nat.lt_or_ge k N with hkN | hkN
        · have hp : pick mk < 6 := by rw [EM.out]; exact hl k hkN
          obtain ⟨mn, emn⟩ : ∃ x, x = nx (pick mk) mk := ⟨_, rfl⟩
          obtain ⟨qn, eqn⟩ : ∃ x, x = qk (pick mk) := ⟨_, rfl⟩
          have hr : resS mk = .tuple #[.agg #[.int .i64 mn.aa, .int .i64 mn.bb, .int .i64 mn.cc, .int .i64 mn.bc, .int .i64 mn.ac, .int .i64 mn.ab], .agg #[.int .i64 qn.p00, .int .i64 qn.p01, .int .i64 qn.p02, .int .i64 qn.p10, .int .i64 qn.p11, .int .i64 qn.p12, .int .i64 qn.p20, .int .i64 qn.p21, .int .i64 qn.p22], .bool true, .int .i64 0] := by rw [resS, if_pos EC.out, emn, eqn, decide_eq_true hp]
          have A2 := fun w => to_v hr (Step_all mk w)
          have B2 := Lib.hid A2; clear A2 hr eqn
          have hfall := fall mk (pick mk) hp
          rw [← emn] at hfall
          have EN := Lib.hid emn; clear emn
          have P6 := pick_six ck
          have HF := Lib.hid hfall; clear hfall
          go_wp2_with fail
          refine (B2.out _).mono ?_
          rintro e w21 ⟨rfl, hb21⟩
          obtain ⟨hc21, hf21⟩ := bcell hb21
          have hz21 := hb21.size
          try simp at hz21
          have z21_0 : w.heap.size < w21.heap.size := by omega
          have z21_1 : w2.heap.size < w21.heap.size := by omega
          have z21_2 : w2.heap.size + 1 < w21.heap.size := by omega
          have z21_3 : w2.heap.size + 1 + 1 < w21.heap.size := by omega
          have h6 := six_any mk
          simp only [sx_eq ck] at h6
          have e0 : mk.bc = sixE mk 0 := rfl
          have e1 : mk.ac = sixE mk 1 := rfl
          have e2 : mk.ab = sixE mk 2 := rfl
          obtain ⟨j, ej⟩ : ∃ x, x = pick mk := ⟨_, rfl⟩
          rw [← ej] at hp P6
          have hs : ∀ i, i < 6 → ∃ x, x = sixE mk i := fun i _ => ⟨_, rfl⟩
          obtain ⟨s0, es0⟩ := hs 0 (by omega)
          obtain ⟨s1, es1⟩ := hs 1 (by omega)
          obtain ⟨s2, es2⟩ := hs 2 (by omega)
          obtain ⟨s3, es3⟩ := hs 3 (by omega)
          obtain ⟨s4, es4⟩ := hs 4 (by omega)
          obtain ⟨s5, es5⟩ := hs 5 (by omega)
          have q0 := P6 0 (by omega)
          have q1 := P6 1 (by omega)
          have q2 := P6 2 (by omega)
          have q3 := P6 3 (by omega)
          have q4 := P6 4 (by omega)
          have q5 := P6 5 (by omega)
          rw [← es0] at q0
          rw [← es1] at q1
          rw [← es2] at q2
          rw [← es3] at q3
          rw [← es4] at q4
          rw [← es5] at q5
          have C6 : ∀ w, Calls Try.prog 18 #[.agg #[.int .i64 mk.aa, .int .i64 mk.bb, .int .i64 mk.cc, .int .i64 mk.bc, .int .i64 mk.ac, .int .i64 mk.ab]] w fun e w' => e = .returned (.agg #[.int .i64 s0, .int .i64 s1, .int .i64 s2, .int .i64 s3, .int .i64 s4, .int .i64 s5]) ∧ Below w.heap.size w w' := fun w => to_v (by rw [es0, es1, es2, es3, es4, es5]; rfl) (h6 w)
          have H6 := Lib.hid C6; clear C6 h6 e0 e1 e2 P6 hs
          have sj : 2 * sx mk (pick mk) = 2 * sixE mk (pick mk) := by rw [sx_eq ck]
          have HG := Lib.hid (HF.out.trans (congrArg wrap64 sj)); clear HF sj
          have EJ := Lib.hid ej; clear ej ck
          go_wp2_with fail
          refine (H6.out _).mono ?_
          rintro e w22 ⟨rfl, hb22⟩
          obtain ⟨hc22, hf22⟩ := bcell hb22
          have hz22 := hb22.size
          try simp at hz22
          have z22_0 : w.heap.size < w22.heap.size := by omega
          have z22_1 : w2.heap.size < w22.heap.size := by omega
          have z22_2 : w2.heap.size + 1 < w22.heap.size := by omega
          have z22_3 : w2.heap.size + 1 + 1 < w22.heap.size := by omega
          have z22_4 : w21.heap.size < w22.heap.size := by omega
          have z22_5 : w21.heap.size + 1 < w22.heap.size := by omega
          have y0 : w.heap.size < w21.heap.size + 1 + 1 := by omega
          have y1 : w2.heap.size < w21.heap.size + 1 + 1 := by omega
          have y2 : w2.heap.size + 1 < w21.heap.size + 1 + 1 := by omega
          have y3 : w2.heap.size + 1 + 1 < w21.heap.size + 1 + 1 := by omega
          rcases (by omega : j = 0 ∨ j = 1 ∨ j = 2 ∨ j = 3 ∨ j = 4 ∨ j = 5) with rfl | rfl | rfl | rfl | rfl | rfl
          · have n0 : 0 < s0 := q0.2 rfl
            have nz : ¬ s0 = 0 := by omega
            have nd : decide (s0 = 0) = false := decide_eq_false nz
            have nb : (s0 == 0) = false := by simp [nz]
            have HH : wrap64 (sqv mk - sqv mn) = wrap64 (2 * s0) := by rw [HG.out, ← EJ.out, es0]
            clear es0 q0 es1 q1 es2 q2 es3 q3 es4 q4 es5 q5
            go_wp2
            refine wp_loop_rounds 7 ?_
            rw [rounds_succ]
            go_wp2
            rw [rounds_succ]
            go_wp2
            rw [rounds_succ]
            go_wp2
            rw [rounds_succ]
            go_wp2
            rw [rounds_succ]
            go_wp2
            rw [rounds_succ]
            go_wp2
            rw [rounds_succ]
            go_wp2
            have zzx1_0 : w.heap.size < w22.heap.size + 1 := by omega
            have zzx1_1 : w2.heap.size < w22.heap.size + 1 := by omega
            have zzx1_2 : w2.heap.size + 1 < w22.heap.size + 1 := by omega
            have zzx1_3 : w2.heap.size + 1 + 1 < w22.heap.size + 1 := by omega
            have zzx1_4 : w21.heap.size < w22.heap.size + 1 := by omega
            have zzx1_5 : w21.heap.size + 1 < w22.heap.size + 1 := by omega
            refine region_all (by kernel_rfl) (by kernel_rfl) ?_
            repeat (go_big_quiet_step ((go_at_call 19; exact held_of _ (Nat.le_refl _) (squares_any _ _))))
            refine wpQuiet_nil ?_
            rintro x1 ⟨⟨w0, hbx1⟩, rfl⟩
            obtain ⟨hcx1, hfx1⟩ := bcell hbx1
            have hzx1 := hbx1.size
            try simp at hzx1
            have zx1_0 : w.heap.size < x1.heap.size := by omega
            have zx1_1 : w2.heap.size < x1.heap.size := by omega
            have zx1_2 : w2.heap.size + 1 < x1.heap.size := by omega
            have zx1_3 : w2.heap.size + 1 + 1 < x1.heap.size := by omega
            have zx1_4 : w21.heap.size < x1.heap.size := by omega
            have zx1_5 : w21.heap.size + 1 < x1.heap.size := by omega
            go_wp2
            go_roundw
            case rel =>
              refine ⟨k + 1, by omega, by go_num, ?_⟩
              rw [show it m (k + 1) = mn from by rw [EN.out, EM.out]; rfl]
              constructor
              · repeat (first | exact Below.refl _ _ | assumption | exact Below.alloc (Below.refl _ _) (Nat.le_refl _) _ | refine Below.setCell ?_ (by first | (simp; done) | (simp; omega) | omega) _ | refine below_drewN ?_ _ | refine Below.alloc ?_ (by first | (simp; done) | (simp; omega) | omega) _ | refine Below.trans ?_ (Below.mono (by assumption) (by first | (simp; done) | (simp; omega) | omega)))
              · first | (simp; done) | (simp; omega) | omega
              · first | (simp; done) | (simp; omega) | omega
              all_goals first | (intro o; go_simp; done) | (go_simp; done)
            case measure => simp [intOf]; omega
          · have n0 : s0 ≤ 0 := q0.1 (by omega)
            have n1 : 0 < s1 := q1.2 rfl
            have nz : ¬ s1 = 0 := by omega
            have nd : decide (s1 = 0) = false := decide_eq_false nz
            have nb : (s1 == 0) = false := by simp [nz]
            have HH : wrap64 (sqv mk - sqv mn) = wrap64 (2 * s1) := by rw [HG.out, ← EJ.out, es1]
            clear es0 q0 es1 q1 es2 q2 es3 q3 es4 q4 es5 q5
            go_wp2
            refine wp_loop_rounds 7 ?_
            rw [rounds_succ]
            go_wp2
            rw [rounds_succ]
            go_wp2
            rw [rounds_succ]
            go_wp2
            rw [rounds_succ]
            go_wp2
            rw [rounds_succ]
            go_wp2
            rw [rounds_succ]
            go_wp2
            rw [rounds_succ]
            go_wp2
            have zzx1_0 : w.heap.size < w22.heap.size + 1 := by omega
            have zzx1_1 : w2.heap.size < w22.heap.size + 1 := by omega
            have zzx1_2 : w2.heap.size + 1 < w22.heap.size + 1 := by omega
            have zzx1_3 : w2.heap.size + 1 + 1 < w22.heap.size + 1 := by omega
            have zzx1_4 : w21.heap.size < w22.heap.size + 1 := by omega
            have zzx1_5 : w21.heap.size + 1 < w22.heap.size + 1 := by omega
            refine region_all (by kernel_rfl) (by kernel_rfl) ?_
            repeat (go_big_quiet_step ((go_at_call 19; exact held_of _ (Nat.le_refl _) (squares_any _ _))))
            refine wpQuiet_nil ?_
            rintro x1 ⟨⟨w0, hbx1⟩, rfl⟩
            obtain ⟨hcx1, hfx1⟩ := bcell hbx1
            have hzx1 := hbx1.size
            try simp at hzx1
            have zx1_0 : w.heap.size < x1.heap.size := by omega
            have zx1_1 : w2.heap.size < x1.heap.size := by omega
            have zx1_2 : w2.heap.size + 1 < x1.heap.size := by omega
            have zx1_3 : w2.heap.size + 1 + 1 < x1.heap.size := by omega
            have zx1_4 : w21.heap.size < x1.heap.size := by omega
            have zx1_5 : w21.heap.size + 1 < x1.heap.size := by omega
            go_wp2
            go_roundw
            case rel =>
              refine ⟨k + 1, by omega, by go_num, ?_⟩
              rw [show it m (k + 1) = mn from by rw [EN.out, EM.out]; rfl]
              constructor
              · repeat (first | exact Below.refl _ _ | assumption | exact Below.alloc (Below.refl _ _) (Nat.le_refl _) _ | refine Below.setCell ?_ (by first | (simp; done) | (simp; omega) | omega) _ | refine below_drewN ?_ _ | refine Below.alloc ?_ (by first | (simp; done) | (simp; omega) | omega) _ | refine Below.trans ?_ (Below.mono (by assumption) (by first | (simp; done) | (simp; omega) | omega)))
              · first | (simp; done) | (simp; omega) | omega
              · first | (simp; done) | (simp; omega) | omega
              all_goals first | (intro o; go_simp; done) | (go_simp; done)
            case measure => simp [intOf]; omega
          · have n0 : s0 ≤ 0 := q0.1 (by omega)
            have n1 : s1 ≤ 0 := q1.1 (by omega)
            have n2 : 0 < s2 := q2.2 rfl
            have nz : ¬ s2 = 0 := by omega
            have nd : decide (s2 = 0) = false := decide_eq_false nz
            have nb : (s2 == 0) = false := by simp [nz]
            have HH : wrap64 (sqv mk - sqv mn) = wrap64 (2 * s2) := by rw [HG.out, ← EJ.out, es2]
            clear es0 q0 es1 q1 es2 q2 es3 q3 es4 q4 es5 q5
            go_wp2
            refine wp_loop_rounds 7 ?_
            rw [rounds_succ]
            go_wp2
            rw [rounds_succ]
            go_wp2
            rw [rounds_succ]
            go_wp2
            rw [rounds_succ]
            go_wp2
            rw [rounds_succ]
            go_wp2
            rw [rounds_succ]
            go_wp2
            rw [rounds_succ]
            go_wp2
            have zzx1_0 : w.heap.size < w22.heap.size + 1 := by omega
            have zzx1_1 : w2.heap.size < w22.heap.size + 1 := by omega
            have zzx1_2 : w2.heap.size + 1 < w22.heap.size + 1 := by omega
            have zzx1_3 : w2.heap.size + 1 + 1 < w22.heap.size + 1 := by omega
            have zzx1_4 : w21.heap.size < w22.heap.size + 1 := by omega
            have zzx1_5 : w21.heap.size + 1 < w22.heap.size + 1 := by omega
            refine region_all (by kernel_rfl) (by kernel_rfl) ?_
            repeat (go_big_quiet_step ((go_at_call 19; exact held_of _ (Nat.le_refl _) (squares_any _ _))))
            refine wpQuiet_nil ?_
            rintro x1 ⟨⟨w0, hbx1⟩, rfl⟩
            obtain ⟨hcx1, hfx1⟩ := bcell hbx1
            have hzx1 := hbx1.size
            try simp at hzx1
            have zx1_0 : w.heap.size < x1.heap.size := by omega
            have zx1_1 : w2.heap.size < x1.heap.size := by omega
            have zx1_2 : w2.heap.size + 1 < x1.heap.size := by omega
            have zx1_3 : w2.heap.size + 1 + 1 < x1.heap.size := by omega
            have zx1_4 : w21.heap.size < x1.heap.size := by omega
            have zx1_5 : w21.heap.size + 1 < x1.heap.size := by omega
            go_wp2
            go_roundw
            case rel =>
              refine ⟨k + 1, by omega, by go_num, ?_⟩
              rw [show it m (k + 1) = mn from by rw [EN.out, EM.out]; rfl]
              constructor
              · repeat (first | exact Below.refl _ _ | assumption | exact Below.alloc (Below.refl _ _) (Nat.le_refl _) _ | refine Below.setCell ?_ (by first | (simp; done) | (simp; omega) | omega) _ | refine below_drewN ?_ _ | refine Below.alloc ?_ (by first | (simp; done) | (simp; omega) | omega) _ | refine Below.trans ?_ (Below.mono (by assumption) (by first | (simp; done) | (simp; omega) | omega)))
              · first | (simp; done) | (simp; omega) | omega
              · first | (simp; done) | (simp; omega) | omega
              all_goals first | (intro o; go_simp; done) | (go_simp; done)
            case measure => simp [intOf]; omega
          · have n0 : s0 ≤ 0 := q0.1 (by omega)
            have n1 : s1 ≤ 0 := q1.1 (by omega)
            have n2 : s2 ≤ 0 := q2.1 (by omega)
            have n3 : 0 < s3 := q3.2 rfl
            have nz : ¬ s3 = 0 := by omega
            have nd : decide (s3 = 0) = false := decide_eq_false nz
            have nb : (s3 == 0) = false := by simp [nz]
            have HH : wrap64 (sqv mk - sqv mn) = wrap64 (2 * s3) := by rw [HG.out, ← EJ.out, es3]
            clear es0 q0 es1 q1 es2 q2 es3 q3 es4 q4 es5 q5
            go_wp2
            refine wp_loop_rounds 7 ?_
            rw [rounds_succ]
            go_wp2
            rw [rounds_succ]
            go_wp2
            rw [rounds_succ]
            go_wp2
            rw [rounds_succ]
            go_wp2
            rw [rounds_succ]
            go_wp2
            rw [rounds_succ]
            go_wp2
            rw [rounds_succ]
            go_wp2
            have zzx1_0 : w.heap.size < w22.heap.size + 1 := by omega
            have zzx1_1 : w2.heap.size < w22.heap.size + 1 := by omega
            have zzx1_2 : w2.heap.size + 1 < w22.heap.size + 1 := by omega
            have zzx1_3 : w2.heap.size + 1 + 1 < w22.heap.size + 1 := by omega
            have zzx1_4 : w21.heap.size < w22.heap.size + 1 := by omega
            have zzx1_5 : w21.heap.size + 1 < w22.heap.size + 1 := by omega
            refine region_all (by kernel_rfl) (by kernel_rfl) ?_
            repeat (go_big_quiet_step ((go_at_call 19; exact held_of _ (Nat.le_refl _) (squares_any _ _))))
            refine wpQuiet_nil ?_
            rintro x1 ⟨⟨w0, hbx1⟩, rfl⟩
            obtain ⟨hcx1, hfx1⟩ := bcell hbx1
            have hzx1 := hbx1.size
            try simp at hzx1
            have zx1_0 : w.heap.size < x1.heap.size := by omega
            have zx1_1 : w2.heap.size < x1.heap.size := by omega
            have zx1_2 : w2.heap.size + 1 < x1.heap.size := by omega
            have zx1_3 : w2.heap.size + 1 + 1 < x1.heap.size := by omega
            have zx1_4 : w21.heap.size < x1.heap.size := by omega
            have zx1_5 : w21.heap.size + 1 < x1.heap.size := by omega
            go_wp2
            go_roundw
            case rel =>
              refine ⟨k + 1, by omega, by go_num, ?_⟩
              rw [show it m (k + 1) = mn from by rw [EN.out, EM.out]; rfl]
              constructor
              · repeat (first | exact Below.refl _ _ | assumption | exact Below.alloc (Below.refl _ _) (Nat.le_refl _) _ | refine Below.setCell ?_ (by first | (simp; done) | (simp; omega) | omega) _ | refine below_drewN ?_ _ | refine Below.alloc ?_ (by first | (simp; done) | (simp; omega) | omega) _ | refine Below.trans ?_ (Below.mono (by assumption) (by first | (simp; done) | (simp; omega) | omega)))
              · first | (simp; done) | (simp; omega) | omega
              · first | (simp; done) | (simp; omega) | omega
              all_goals first | (intro o; go_simp; done) | (go_simp; done)
            case measure => simp [intOf]; omega
          · have n0 : s0 ≤ 0 := q0.1 (by omega)
            have n1 : s1 ≤ 0 := q1.1 (by omega)
            have n2 : s2 ≤ 0 := q2.1 (by omega)
            have n3 : s3 ≤ 0 := q3.1 (by omega)
            have n4 : 0 < s4 := q4.2 rfl
            have nz : ¬ s4 = 0 := by omega
            have nd : decide (s4 = 0) = false := decide_eq_false nz
            have nb : (s4 == 0) = false := by simp [nz]
            have HH : wrap64 (sqv mk - sqv mn) = wrap64 (2 * s4) := by rw [HG.out, ← EJ.out, es4]
            clear es0 q0 es1 q1 es2 q2 es3 q3 es4 q4 es5 q5
            go_wp2
            refine wp_loop_rounds 7 ?_
            rw [rounds_succ]
            go_wp2
            rw [rounds_succ]
            go_wp2
            rw [rounds_succ]
            go_wp2
            rw [rounds_succ]
            go_wp2
            rw [rounds_succ]
            go_wp2
            rw [rounds_succ]
            go_wp2
            rw [rounds_succ]
            go_wp2
            have zzx1_0 : w.heap.size < w22.heap.size + 1 := by omega
            have zzx1_1 : w2.heap.size < w22.heap.size + 1 := by omega
            have zzx1_2 : w2.heap.size + 1 < w22.heap.size + 1 := by omega
            have zzx1_3 : w2.heap.size + 1 + 1 < w22.heap.size + 1 := by omega
            have zzx1_4 : w21.heap.size < w22.heap.size + 1 := by omega
            have zzx1_5 : w21.heap.size + 1 < w22.heap.size + 1 := by omega
            refine region_all (by kernel_rfl) (by kernel_rfl) ?_
            repeat (go_big_quiet_step ((go_at_call 19; exact held_of _ (Nat.le_refl _) (squares_any _ _))))
            refine wpQuiet_nil ?_
            rintro x1 ⟨⟨w0, hbx1⟩, rfl⟩
            obtain ⟨hcx1, hfx1⟩ := bcell hbx1
            have hzx1 := hbx1.size
            try simp at hzx1
            have zx1_0 : w.heap.size < x1.heap.size := by omega
            have zx1_1 : w2.heap.size < x1.heap.size := by omega
            have zx1_2 : w2.heap.size + 1 < x1.heap.size := by omega
            have zx1_3 : w2.heap.size + 1 + 1 < x1.heap.size := by omega
            have zx1_4 : w21.heap.size < x1.heap.size := by omega
            have zx1_5 : w21.heap.size + 1 < x1.heap.size := by omega
            go_wp2
            go_roundw
            case rel =>
              refine ⟨k + 1, by omega, by go_num, ?_⟩
              rw [show it m (k + 1) = mn from by rw [EN.out, EM.out]; rfl]
              constructor
              · repeat (first | exact Below.refl _ _ | assumption | exact Below.alloc (Below.refl _ _) (Nat.le_refl _) _ | refine Below.setCell ?_ (by first | (simp; done) | (simp; omega) | omega) _ | refine below_drewN ?_ _ | refine Below.alloc ?_ (by first | (simp; done) | (simp; omega) | omega) _ | refine Below.trans ?_ (Below.mono (by assumption) (by first | (simp; done) | (simp; omega) | omega)))
              · first | (simp; done) | (simp; omega) | omega
              · first | (simp; done) | (simp; omega) | omega
              all_goals first | (intro o; go_simp; done) | (go_simp; done)
            case measure => simp [intOf]; omega
          · have n0 : s0 ≤ 0 := q0.1 (by omega)
            have n1 : s1 ≤ 0 := q1.1 (by omega)
            have n2 : s2 ≤ 0 := q2.1 (by omega)
            have n3 : s3 ≤ 0 := q3.1 (by omega)
            have n4 : s4 ≤ 0 := q4.1 (by omega)
            have n5 : 0 < s5 := q5.2 rfl
            have nz : ¬ s5 = 0 := by omega
            have nd : decide (s5 = 0) = false := decide_eq_false nz
            have nb : (s5 == 0) = false := by simp [nz]
            have HH : wrap64 (sqv mk - sqv mn) = wrap64 (2 * s5) := by rw [HG.out, ← EJ.out, es5]
            clear es0 q0 es1 q1 es2 q2 es3 q3 es4 q4 es5 q5
            go_wp2
            refine wp_loop_rounds 7 ?_
            rw [rounds_succ]
            go_wp2
            rw [rounds_succ]
            go_wp2
            rw [rounds_succ]
            go_wp2
            rw [rounds_succ]
            go_wp2
            rw [rounds_succ]
            go_wp2
            rw [rounds_succ]
            go_wp2
            rw [rounds_succ]
            go_wp2
            have zzx1_0 : w.heap.size < w22.heap.size + 1 := by omega
            have zzx1_1 : w2.heap.size < w22.heap.size + 1 := by omega
            have zzx1_2 : w2.heap.size + 1 < w22.heap.size + 1 := by omega
            have zzx1_3 : w2.heap.size + 1 + 1 < w22.heap.size + 1 := by omega
            have zzx1_4 : w21.heap.size < w22.heap.size + 1 := by omega
            have zzx1_5 : w21.heap.size + 1 < w22.heap.size + 1 := by omega
            refine region_all (by kernel_rfl) (by kernel_rfl) ?_
            repeat (go_big_quiet_step ((go_at_call 19; exact held_of _ (Nat.le_refl _) (squares_any _ _))))
            refine wpQuiet_nil ?_
            rintro x1 ⟨⟨w0, hbx1⟩, rfl⟩
            obtain ⟨hcx1, hfx1⟩ := bcell hbx1
            have hzx1 := hbx1.size
            try simp at hzx1
            have zx1_0 : w.heap.size < x1.heap.size := by omega
            have zx1_1 : w2.heap.size < x1.heap.size := by omega
            have zx1_2 : w2.heap.size + 1 < x1.heap.size := by omega
            have zx1_3 : w2.heap.size + 1 + 1 < x1.heap.size := by omega
            have zx1_4 : w21.heap.size < x1.heap.size := by omega
            have zx1_5 : w21.heap.size + 1 < x1.heap.size := by omega
            go_wp2
            go_roundw
            case rel =>
              refine ⟨k + 1, by omega, by go_num, ?_⟩
              rw [show it m (k + 1) = mn from by rw [EN.out, EM.out]; rfl]
              constructor
              · repeat (first | exact Below.refl _ _ | assumption | exact Below.alloc (Below.refl _ _) (Nat.le_refl _) _ | refine Below.setCell ?_ (by first | (simp; done) | (simp; omega) | omega) _ | refine below_drewN ?_ _ | refine Below.alloc ?_ (by first | (simp; done) | (simp; omega) | omega) _ | refine Below.trans ?_ (Below.mono (by assumption) (by first | (simp; done) | (simp; omega) | omega)))
              · first | (simp; done) | (simp; omega) | omega
              · first | (simp; done) | (simp; omega) | omega
              all_goals first | (intro o; go_simp; done) | (go_simp; done)
            case measure => simp [intOf]; omega
        · obtain rfl : k = N := by omega
          have hp : pick mk = 6 := by rw [EM.out]; exact hN
          have hr : resS mk = .tuple #[.agg #[.int .i64 mk.aa, .int .i64 mk.bb, .int .i64 mk.cc, .int .i64 mk.bc, .int .i64 mk.ac, .int .i64 mk.ab], .agg #[.int .i64 one.p00, .int .i64 one.p01, .int .i64 one.p02, .int .i64 one.p10, .int .i64 one.p11, .int .i64 one.p12, .int .i64 one.p20, .int .i64 one.p21, .int .i64 one.p22], .bool false, .int .i64 0] := by rw [resS, if_pos EC.out, hp, nx6_id ck]; rfl
          have A2 := fun w => to_v hr (Step_all mk w)
          have B2 := Lib.hid A2; have eLk : mL = mk := by rw [EL.out, EM.out]
          subst eLk
          clear A2 hr hp ck
          go_wp2_with fail
          refine (B2.out _).mono ?_
          rintro e w21 ⟨rfl, hb21⟩
          obtain ⟨hc21, hf21⟩ := bcell hb21
          have hz21 := hb21.size
          try simp at hz21
          have z21_0 : w.heap.size < w21.heap.size := by omega
          have z21_1 : w2.heap.size < w21.heap.size := by omega
          have z21_2 : w2.heap.size + 1 < w21.heap.size := by omega
          have z21_3 : w2.heap.size + 1 + 1 < w21.heap.size := by omega
          go_wp2
          go_ret
          refine ⟨rfl, ?_⟩
          repeat (first | exact Below.refl _ _ | assumption | exact Below.alloc (Below.refl _ _) (Nat.le_refl _) _ | refine Below.setCell ?_ (by first | (simp; done) | (simp; omega) | omega) _ | refine below_drewN ?_ _ | refine Below.alloc ?_ (by first | (simp; done) | (simp; omega) | omega) _ | refine Below.trans ?_ (Below.mono (by assumption) (by first | (simp; done) | (simp; omega) | omega)))
    · obtain ⟨C, eC⟩ : ∃ x, chk mk = x := ⟨_, rfl⟩
      have hCz : C ≠ 0 := by rw [← eC]; exact hC
      have EC := Lib.hid eC; clear eC hC
      go_wp2_with fail
      refine (to_v (congrArg (Value.int .i64) EC.out) (check_any _ _ _ _ _ _ _)).mono ?_
      rintro e w20 ⟨rfl, hb20⟩
      obtain ⟨hc20, hf20⟩ := bcell hb20
      have hz20 := hb20.size
      try simp at hz20
      have z20_0 : w.heap.size < w20.heap.size := by omega
      have z20_1 : w2.heap.size < w20.heap.size := by omega
      have z20_2 : w2.heap.size + 1 < w20.heap.size := by omega
      have z20_3 : w2.heap.size + 1 + 1 < w20.heap.size := by omega
      go_wp2
      go_ret
      refine ⟨rfl, ?_⟩
      repeat (first | exact Below.refl _ _ | assumption | exact Below.alloc (Below.refl _ _) (Nat.le_refl _) _ | refine Below.setCell ?_ (by first | (simp; done) | (simp; omega) | omega) _ | refine below_drewN ?_ _ | refine Below.alloc ?_ (by first | (simp; done) | (simp; omega) | omega) _ | refine Below.trans ?_ (Below.mono (by assumption) (by first | (simp; done) | (simp; omega) | omega)))

theorem falls_any (aa bb cc bc ac ab : Int) (w : World) : Calls Try.prog 5 #[.agg #[.int .i64 aa, .int .i64 bb, .int .i64 cc, .int .i64 bc, .int .i64 ac, .int .i64 ab]] w fun e w' => e = .returned (.bool true) ∧ Below w.heap.size w w' := by
  by_cases hC : chk ⟨aa, bb, cc, bc, ac, ab⟩ = 0
  · exact falls_ok ⟨aa, bb, cc, bc, ac, ab⟩ w hC
  · exact falls_bad ⟨aa, bb, cc, bc, ac, ab⟩ _ w rfl hC
end Go.Proofs.Ytdhlkhockpblhaa
