/-
  Contracts at finite words: Unit, scaled.
-/
import Derived.Test.YtiloleochmdfoaaCxU1
namespace Go.Proofs.Ytiloleochmdfoaa
open Go.RowKit
attribute [local irreducible] World.setCell
set_option linter.unusedSimpArgs false
set_option linter.unusedVariables false

set_option maxHeartbeats 1600000 in
theorem Unit_gr (a b a1 b1 m u v : Nat) (w : World) (ha : a < 18446744073709551616) (hb : b < 18446744073709551616) (h : (finv a && finv b) = true) (hz : (zerop a && zerop b) = false) (hg : gef (mxv (a % 9223372036854775808) (b % 9223372036854775808)) = true)
    (hS : ∀ w : World, Calls Try.prog 32 #[.float .f64 3706462493325918208, .complex .f64 a b] w fun e w' => e = .returned (.complex .f64 a1 b1) ∧ Below w.heap.size w w')
    (hA : ∀ w : World, Calls Try.prog 17 #[.complex .f64 a1 b1] w fun e w' => e = .returned (.float .f64 m) ∧ Below w.heap.size w w')
    (hu : ∀ w, fr .quo a1 m w = u) (hv : ∀ w, fr .quo b1 m w = v) :
    Calls Try.prog 25 #[.complex .f64 a b] w fun e w' => e = .returned (.tuple #[.complex .f64 u v, .int .i64 0]) ∧ Below w.heap.size w w' := by
  obtain ⟨f1, f2⟩ := Bool.and_eq_true_iff.1 h
  have n1 : isN (a % 9223372036854775808) = false := by rw [isN_mod]; unfold finv at f1; revert f1; cases isN a <;> simp
  have n2 : isN (b % 9223372036854775808) = false := by rw [isN_mod]; unfold finv at f2; revert f2; cases isN b <;> simp
  have HS := Lib.hid hS; have HA := Lib.hid hA; have HU := Lib.hid hu; have HV := Lib.hid hv
  clear hS hA hu hv
  go_enter Try.func25, Try.ntmps25
  cases hz1 : zerop a
  all_goals cases hz2 : zerop b
  all_goals rw [hz1, hz2] at hz
  all_goals first | (cases hz; done) | skip
  all_goals
    go_wp2_with (first | (go_at_call 14; refine (Finite_any _ _ _ ha hb).mono ?_; rintro e w' ⟨rfl, rfl⟩) | (go_at_call 48; refine (mabs_any _ _ (by assumption)).mono ?_; rintro e w' ⟨rfl, rfl⟩) | fail)
    refine (HS.out _).mono ?_
    rintro e w1 ⟨rfl, hb1⟩
    go_wp2_with fail
    refine (HA.out _).mono ?_
    rintro e w2 ⟨rfl, hb2⟩
    go_wp2
    have BB := Lib.hid (hb1.trans (hb2.mono hb1.size))
    refine bodyPost_ret (v := .tuple #[.complex .f64 (fr .quo a1 m w2) (fr .quo b1 m (fw .quo a1 m w2)), .int .i64 0]) (by simp [results, Try.results25, go_sem, *]) rfl ⟨by rw [HU.out, HV.out], below_fw (below_fw BB.out _ _ _) _ _ _⟩

set_option maxHeartbeats 1600000 in
theorem Unit_sm (a b a1 b1 m u v : Nat) (w : World) (ha : a < 18446744073709551616) (hb : b < 18446744073709551616) (h : (finv a && finv b) = true) (hz : (zerop a && zerop b) = false) (hg : gef (mxv (a % 9223372036854775808) (b % 9223372036854775808)) = false) (hl : ltf (mxv (a % 9223372036854775808) (b % 9223372036854775808)) = true)
    (hS : ∀ w : World, Calls Try.prog 32 #[.float .f64 5507902344274116608, .complex .f64 a b] w fun e w' => e = .returned (.complex .f64 a1 b1) ∧ Below w.heap.size w w')
    (hA : ∀ w : World, Calls Try.prog 17 #[.complex .f64 a1 b1] w fun e w' => e = .returned (.float .f64 m) ∧ Below w.heap.size w w')
    (hu : ∀ w, fr .quo a1 m w = u) (hv : ∀ w, fr .quo b1 m w = v) :
    Calls Try.prog 25 #[.complex .f64 a b] w fun e w' => e = .returned (.tuple #[.complex .f64 u v, .int .i64 0]) ∧ Below w.heap.size w w' := by
  obtain ⟨f1, f2⟩ := Bool.and_eq_true_iff.1 h
  have n1 : isN (a % 9223372036854775808) = false := by rw [isN_mod]; unfold finv at f1; revert f1; cases isN a <;> simp
  have n2 : isN (b % 9223372036854775808) = false := by rw [isN_mod]; unfold finv at f2; revert f2; cases isN b <;> simp
  have HS := Lib.hid hS; have HA := Lib.hid hA; have HU := Lib.hid hu; have HV := Lib.hid hv
  clear hS hA hu hv
  go_enter Try.func25, Try.ntmps25
  cases hz1 : zerop a
  all_goals cases hz2 : zerop b
  all_goals rw [hz1, hz2] at hz
  all_goals first | (cases hz; done) | skip
  all_goals
    go_wp2_with (first | (go_at_call 14; refine (Finite_any _ _ _ ha hb).mono ?_; rintro e w' ⟨rfl, rfl⟩) | (go_at_call 48; refine (mabs_any _ _ (by assumption)).mono ?_; rintro e w' ⟨rfl, rfl⟩) | fail)
    refine (HS.out _).mono ?_
    rintro e w1 ⟨rfl, hb1⟩
    go_wp2_with fail
    refine (HA.out _).mono ?_
    rintro e w2 ⟨rfl, hb2⟩
    go_wp2
    have BB := Lib.hid (hb1.trans (hb2.mono hb1.size))
    refine bodyPost_ret (v := .tuple #[.complex .f64 (fr .quo a1 m w2) (fr .quo b1 m (fw .quo a1 m w2)), .int .i64 0]) (by simp [results, Try.results25, go_sem, *]) rfl ⟨by rw [HU.out, HV.out], below_fw (below_fw BB.out _ _ _) _ _ _⟩

theorem fr_of {op : BinOp} {x y z : Nat} (h : floatBits op .f64 x y = some z) (w : World) : fr op x y w = z ∧ fw op x y w = w := by
  unfold fr fw; rw [h]; exact ⟨rfl, rfl⟩
theorem Scale_wd {k : Int} {sa sb : Bool} {X Y X1 Y1 : Nat} (hX : X ≤ 9218868437227405312) (hY : Y ≤ 9218868437227405312) (hk : pr k ≤ 9218868437227405312) (h1 : Ieee.double.mul (wd false (pr k)) (wd sa X) = some (wd sa X1)) (h2 : Ieee.double.mul (wd false (pr k)) (wd sb Y) = some (wd sb Y1)) (w : World) :
    Calls Try.prog 32 #[.float .f64 (pr k), .complex .f64 (wd sa X) (wd sb Y)] w fun e w' => e = .returned (.complex .f64 (wd sa X1) (wd sb Y1)) ∧ Below w.heap.size w w' := by
  refine (Scale_any _ _ _ w).mono ?_
  rintro e w' ⟨⟨r, i, rfl, er, ei⟩, hb⟩
  have c0 : cn (pr k) = some (wd false (pr k)) := cn_wd (s := false) hk
  rw [c0, cn_wd hX, fop_mul, h1] at er
  rw [c0, cn_wd hY, fop_mul, h2] at ei
  exact ⟨by rw [cn_eq er, cn_eq ei], hb⟩
/-- The unit of finite parts, not both nought: whatever they are. -/
structure UnitOf (sa sb : Bool) (X Y U V : Nat) : Prop where
  lU : U < 9218868437227405312
  lV : V < 9218868437227405312
  near : ∃ w1 w2 S off sg, Ieee.double.mul (wd sa U) (wd sa U) = some (wd false w1) ∧ Ieee.double.mul (wd sb V) (wd sb V) = some (wd false w2) ∧ Ieee.double.add (wd false w1) (wd false w2) = some (wd false S) ∧ S < 9218868437227405312 ∧ Ieee.double.sub (wd false S) (wd false (pr 0)) = some (wd sg off) ∧ off ≤ pr (-45)
  call : ∀ w : World, Calls Try.prog 25 #[.complex .f64 (wd sa X) (wd sb Y)] w fun e w' => e = .returned (.tuple #[.complex .f64 (wd sa U) (wd sb V), .int .i64 0]) ∧ Below w.heap.size w w'
  mid : pr (-900) ≤ max X Y → max X Y < pr 1000 → ∃ t tt s1 q m r, UOf sa sb X Y t tt s1 q m U V r
theorem mag_inf : mag 9218868437227405312 = pw 1024 := by decide +kernel
theorem scale_great {P P1 : Nat} (hP : P < 9218868437227405312) (h : Rn (pw (-200) * mag P) P1) : P1 ≤ pr 824 ∧ (pr 1000 ≤ P → pr 800 ≤ P1) := by
  have hp := Rat.le_of_lt (pw_pos (-200))
  constructor
  · refine h.le ?_
    have h1 := mag_mono (Nat.le_of_lt hP)
    have h2 := Rat.mul_le_mul_of_nonneg_left h1 hp
    rw [mag_inf, ← pw_add] at h2
    rw [mag_pr (by decide)]
    exact h2
  · intro hl
    refine h.ge ?_
    have h1 := mag_mono hl
    have h2 := Rat.mul_le_mul_of_nonneg_left h1 hp
    rw [mag_pr (by decide), ← pw_add] at h2
    rw [mag_pr (by decide)]
    exact h2
theorem scale_small {P P1 : Nat} (hP : P < pr (-900)) (h : Rn (pw 200 * mag P) P1) : P1 ≤ pr (-700) ∧ (P ≠ 0 → pr (-874) ≤ P1) := by
  have hp := Rat.le_of_lt (pw_pos 200)
  constructor
  · refine h.le ?_
    have h1 := mag_mono (Nat.le_of_lt hP)
    have h2 := Rat.mul_le_mul_of_nonneg_left h1 hp
    rw [mag_pr (by decide), ← pw_add] at h2
    rw [mag_pr (by decide)]
    exact h2
  · intro hl
    refine h.ge ?_
    have h1 := mag_mono (show 1 ≤ P by omega)
    have h2 := Rat.mul_le_mul_of_nonneg_left h1 hp
    rw [mag_one, ← pw_add] at h2
    rw [mag_pr (by decide)]
    exact h2
theorem quo_facts {s : Bool} {P m U : Nat} (h : Ieee.double.div (wd s P) (wd false m) = some (wd s U)) (w : World) : fr .quo (wd s P) m w = wd s U := (fr_of (op := .quo) (x := wd s P) (y := m) h w).1
/-- Unit of finite parts. -/
theorem unit_fin (sa sb : Bool) {X Y : Nat} (hX : X < 9218868437227405312) (hY : Y < 9218868437227405312) (h0 : max X Y ≠ 0) : ∃ U V, UnitOf sa sb X Y U V := by
  have p1000 : pr 1000 = 9110782046170513408 := by decide
  have p900 : pr (-900) = 553942754166571008 := by decide
  have p800 : pr 800 = 8210062120876834816 + 0 ∨ 36028797018963968 ≤ pr 800 := .inr (by decide)
  have p800' : 36028797018963968 ≤ pr 800 := by decide
  have p824 : pr 824 < pr 1000 := by decide
  have p700 : pr (-700) < pr 1000 := by decide
  have p874 : 36028797018963968 ≤ pr (-874) := by decide
  have hX' : X ≤ 9218868437227405312 := by omega
  have hY' : Y ≤ 9218868437227405312 := by omega
  have hf : (finv (wd sa X) && finv (wd sb Y)) = true := by rw [finv_wd hX, finv_wd hY]; rfl
  have hz : (zerop (wd sa X) && zerop (wd sb Y)) = false := by
    rw [zerop_wd hX, zerop_wd hY]
    by_cases z : X = 0
    · rw [decide_eq_false (show ¬ Y = 0 by omega), Bool.and_false]
    · rw [decide_eq_false z, Bool.false_and]
  have hmx : mxv (wd sa X % 9223372036854775808) (wd sb Y % 9223372036854775808) = max X Y := by rw [wd_mod hX', wd_mod hY', mxv_nat hX' hY']
  by_cases g : pr 1000 ≤ max X Y
  · obtain ⟨X1, e1, n1⟩ := scale_is sa (P := X) (k := -200) (by decide) hX
    obtain ⟨Y1, e2, n2⟩ := scale_is sb (P := Y) (k := -200) (by decide) hY
    have b1 := scale_great hX n1
    have b2 := scale_great hY n2
    have lX : X1 < 9218868437227405312 := by omega
    have lY : Y1 < 9218868437227405312 := by omega
    rw [cut_id lX] at e1
    rw [cut_id lY] at e2
    have lo : pr 800 ≤ max X1 Y1 := by
      rcases Nat.le_total X Y with c | c
      · rw [Nat.max_eq_right c] at g; exact Nat.le_trans (b2.2 g) (Nat.le_max_right _ _)
      · rw [Nat.max_eq_left c] at g; exact Nat.le_trans (b1.2 g) (Nat.le_max_left _ _)
    have h01 : max X1 Y1 ≠ 0 := by omega
    obtain ⟨t, tt, s1, q, m, U, V, r, u⟩ := unit_is sa sb (X := X1) (Y := Y1) (by omega) (by omega)
    have em : Ieee.double.mul (wd false (max X1 Y1)) (wd false q) = some (wd false (cutI m)) := by rw [cut_id u.lm]; exact u.em
    refine ⟨U, V, u.lU, u.lV, u.near, fun w => ?_, fun _ h2 => by omega⟩
    refine Unit_gr (wd sa X) (wd sb Y) (wd sa X1) (wd sb Y1) m (wd sa U) (wd sb V) w (wd_lt hX') (wd_lt hY') hf hz (by rw [hmx, gef_nat (by omega)]; exact decide_eq_true g) (fun w0 => ?_) (fun w0 => ?_) (quo_facts u.eU) (quo_facts u.eV)
    · exact Scale_wd (k := -200) hX' hY' (by decide) e1 e2 w0
    · have := Abs_fin (sa := sa) (sb := sb) lX lY u.qo h01 em w0
      rw [cut_id u.lm] at this
      exact this
  · by_cases l : max X Y < pr (-900)
    · obtain ⟨X1, e1, n1⟩ := scale_is sa (P := X) (k := 200) (by decide) hX
      obtain ⟨Y1, e2, n2⟩ := scale_is sb (P := Y) (k := 200) (by decide) hY
      have b1 := scale_small (by omega) n1
      have b2 := scale_small (by omega) n2
      have lX : X1 < 9218868437227405312 := by omega
      have lY : Y1 < 9218868437227405312 := by omega
      rw [cut_id lX] at e1
      rw [cut_id lY] at e2
      have lo : pr (-874) ≤ max X1 Y1 := by
        rcases Nat.le_total X Y with c | c
        · rw [Nat.max_eq_right c] at h0; exact Nat.le_trans (b2.2 h0) (Nat.le_max_right _ _)
        · rw [Nat.max_eq_left c] at h0; exact Nat.le_trans (b1.2 h0) (Nat.le_max_left _ _)
      have h01 : max X1 Y1 ≠ 0 := by omega
      obtain ⟨t, tt, s1, q, m, U, V, r, u⟩ := unit_is sa sb (X := X1) (Y := Y1) (by omega) (by omega)
      have em : Ieee.double.mul (wd false (max X1 Y1)) (wd false q) = some (wd false (cutI m)) := by rw [cut_id u.lm]; exact u.em
      refine ⟨U, V, u.lU, u.lV, u.near, fun w => ?_, fun h1 _ => by omega⟩
      refine Unit_sm (wd sa X) (wd sb Y) (wd sa X1) (wd sb Y1) m (wd sa U) (wd sb V) w (wd_lt hX') (wd_lt hY') hf hz (by rw [hmx, gef_nat (by omega)]; exact decide_eq_false g) (by rw [hmx, ltf_nat (by omega)]; exact decide_eq_true l) (fun w0 => ?_) (fun w0 => ?_) (quo_facts u.eU) (quo_facts u.eV)
      · exact Scale_wd (k := 200) hX' hY' (by decide) e1 e2 w0
      · have := Abs_fin (sa := sa) (sb := sb) lX lY u.qo h01 em w0
        rw [cut_id u.lm] at this
        exact this
    · obtain ⟨t, tt, s1, q, m, U, V, r, u⟩ := unit_is sa sb (X := X) (Y := Y) (by omega) (by omega)
      exact ⟨U, V, u.lU, u.lV, u.near, fun w => Unit_mid hX hY u h0 (by omega) (by omega) w, fun _ _ => ⟨t, tt, s1, q, m, r, u⟩⟩

end Go.Proofs.Ytiloleochmdfoaa
