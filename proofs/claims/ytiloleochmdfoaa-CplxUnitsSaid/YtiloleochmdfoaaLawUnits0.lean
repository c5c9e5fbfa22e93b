/-
  The law CplxUnits where there is no unit.
-/
import Derived.Test.YtiloleochmdfoaaCxU4
namespace Go.Proofs.Ytiloleochmdfoaa
open Go.RowKit
attribute [local irreducible] World.setCell
set_option linter.unusedSimpArgs false
set_option linter.unusedVariables false

theorem word_is {x : Nat} (h : x < 18446744073709551616) : x = wd (decide (9223372036854775808 ≤ x)) (x % 9223372036854775808) := by
  rw [wd_eq]
  by_cases c : 9223372036854775808 ≤ x
  · rw [decide_eq_true c]; simp; omega
  · rw [decide_eq_false c]; simp; omega
theorem zerop_fin {x : Nat} (hx : x < 18446744073709551616) (h : zerop x = true) : x % 9223372036854775808 < 9218868437227405312 := by
  rcases Nat.lt_or_ge (x % 9223372036854775808) 9218868437227405312 with c | c
  · exact c
  · exfalso
    unfold zerop at h
    rcases Nat.lt_or_ge 9218868437227405312 (x % 9223372036854775808) with d | d
    · obtain ⟨s, t, e⟩ := read_nan (x := x) (by unfold isN; exact decide_eq_true d)
      unfold Ieee.Format.order at h
      rw [e] at h
      cases h
    · have hr : x % 9223372036854775808 = 9218868437227405312 := by omega
      rw [word_is hx, hr] at h
      have := order_eq (s := decide (9223372036854775808 ≤ x)) (t := false) (a := 9218868437227405312) (b := 0) (by omega) (by omega)
      rw [wd_false] at this
      rw [this] at h
      cases hb : decide (9223372036854775808 ≤ x) <;> rw [hb] at h <;> revert h <;> decide
theorem finv_is {x : Nat} (hx : x < 18446744073709551616) : finv x = decide (x % 9223372036854775808 < 9218868437227405312) := by
  by_cases c : x % 9223372036854775808 < 9218868437227405312
  · rw [decide_eq_true c, word_is hx, finv_wd c]
  · rw [decide_eq_false c]
    cases h : finv x with
    | false => rfl
    | true => exact absurd (finv_fin hx h).2 c
set_option maxHeartbeats 3200000 in
theorem units_nan (A B n : Int) (w : World) (hA : 0 ≤ A ∧ A < 18446744073709551616) (hB : 0 ≤ B ∧ B < 18446744073709551616) (h : (finv A.toNat && finv B.toNat) = false) (hz : (zerop A.toNat && zerop B.toNat) = false) :
    Calls Try.prog 10 #[.agg #[.int .u64 A, .int .u64 B], .int .i64 n] w fun e w' => e = .returned (.bool true) ∧ Below w.heap.size w w' := by
  obtain ⟨a, ea⟩ : ∃ x, x = A.toNat := ⟨_, rfl⟩
  obtain ⟨b, eb⟩ : ∃ x, x = B.toNat := ⟨_, rfl⟩
  have ha : a < 18446744073709551616 := by omega
  have hb : b < 18446744073709551616 := by omega
  rw [← ea, ← eb] at h hz
  have hs : (samev 0 0 && samev 0 0) = true := by decide +kernel
  have HO := Lib.hid (show ∀ w, Calls Try.prog 13 #[.agg #[.int .u64 A, .int .u64 B]] w fun e w' => e = .returned (.complex .f64 a b) ∧ Below w.heap.size w w' by rw [ea, eb]; exact fun w => of_any A B w)
  clear ea eb hA hB
  have HU := Lib.hid (fun w => Unit_nan a b w ha hb h)
  have HF := Lib.hid (fun w => Finite_any a b w ha hb)
  have HH := Lib.hid h
  go_enter Try.func10, Try.ntmps10
  go_wp2_with fail
  refine (awake_any _).mono ?_
  rintro e w1 ⟨rfl, hb1⟩
  have hz1 := hb1.size
  simp only [World.size_alloc] at hz1
  have cc0 : w1.cell? ⟨w.heap.size, 0, none⟩ = some (.int .u64 A) := (hb1.cell (p := ⟨w.heap.size, 0, none⟩) (by simp)).trans (by go_simp)
  have cc1 : w1.cell? ⟨w.heap.size, 1, none⟩ = some (.int .u64 B) := (hb1.cell (p := ⟨w.heap.size, 1, none⟩) (by simp)).trans (by go_simp)
  have BB := Lib.hid (show Below w.heap.size w w1 from Below.trans (show Below w.heap.size w (w.alloc (.cells #[.int .u64 A, .int .u64 B] 23)) from (by repeat (first | assumption | exact Below.refl _ _ | refine below_drewN ?_ _ | refine below_fw ?_ _ _ _ | refine below_sw ?_ _ | refine Below.drew ?_ | refine Below.alloc ?_ (by first | (simp; done) | (simp; omega) | omega) _ | refine Below.setCell ?_ (by first | (simp; done) | (simp; omega) | omega) _))) (hb1.mono (by simp)))
  clear hb1
  cases hza : zerop a
  all_goals cases hzb : zerop b
  all_goals rw [hza, hzb] at hz
  all_goals first | (cases hz; done) | skip
  all_goals
    go_wp2_with fail
    refine (HO.out _).mono ?_
    rintro e w2 ⟨rfl, hb2⟩
    have B2 := Lib.hid (BB.out.trans (hb2.mono (by omega)))
    clear hb2
    go_wp2_with fail
    refine (HU.out _).mono ?_
    rintro e w' ⟨rfl, rfl⟩
    go_wp2_with fail
    refine (rSame_any 0 0 0 0 _).mono ?_
    rintro e w' ⟨rfl, rfl⟩
    rw [hs]
    go_wp2_with fail
    refine (HF.out _).mono ?_
    rintro e w' ⟨rfl, rfl⟩
    rw [HH.out]
    go_wp2
    go_ret
    exact ⟨rfl, B2.out⟩
set_option maxHeartbeats 3200000 in
theorem units_zero (A B n : Int) (w : World) (hA : 0 ≤ A ∧ A < 18446744073709551616) (hB : 0 ≤ B ∧ B < 18446744073709551616) (h : (finv A.toNat && finv B.toNat) = true) (hz : (zerop A.toNat && zerop B.toNat) = true) :
    Calls Try.prog 10 #[.agg #[.int .u64 A, .int .u64 B], .int .i64 n] w fun e w' => e = .returned (.bool true) ∧ Below w.heap.size w w' := by
  obtain ⟨a, ea⟩ : ∃ x, x = A.toNat := ⟨_, rfl⟩
  obtain ⟨b, eb⟩ : ∃ x, x = B.toNat := ⟨_, rfl⟩
  have ha : a < 18446744073709551616 := by omega
  have hb : b < 18446744073709551616 := by omega
  rw [← ea, ← eb] at h hz
  have hs : (samev 0 0 && samev 0 0) = true := by decide +kernel
  have HO := Lib.hid (show ∀ w, Calls Try.prog 13 #[.agg #[.int .u64 A, .int .u64 B]] w fun e w' => e = .returned (.complex .f64 a b) ∧ Below w.heap.size w w' by rw [ea, eb]; exact fun w => of_any A B w)
  clear ea eb hA hB
  have HU := Lib.hid (fun w => Unit_zero a b w ha hb h hz)
  have HF := Lib.hid (fun w => Finite_any a b w ha hb)
  have HH := Lib.hid h
  obtain ⟨hza, hzb⟩ := Bool.and_eq_true_iff.1 hz
  clear hz h
  go_enter Try.func10, Try.ntmps10
  go_wp2_with fail
  refine (awake_any _).mono ?_
  rintro e w1 ⟨rfl, hb1⟩
  have hz1 := hb1.size
  simp only [World.size_alloc] at hz1
  have cc0 : w1.cell? ⟨w.heap.size, 0, none⟩ = some (.int .u64 A) := (hb1.cell (p := ⟨w.heap.size, 0, none⟩) (by simp)).trans (by go_simp)
  have cc1 : w1.cell? ⟨w.heap.size, 1, none⟩ = some (.int .u64 B) := (hb1.cell (p := ⟨w.heap.size, 1, none⟩) (by simp)).trans (by go_simp)
  have BB := Lib.hid (show Below w.heap.size w w1 from Below.trans (show Below w.heap.size w (w.alloc (.cells #[.int .u64 A, .int .u64 B] 23)) from (by repeat (first | assumption | exact Below.refl _ _ | refine below_drewN ?_ _ | refine below_fw ?_ _ _ _ | refine below_sw ?_ _ | refine Below.drew ?_ | refine Below.alloc ?_ (by first | (simp; done) | (simp; omega) | omega) _ | refine Below.setCell ?_ (by first | (simp; done) | (simp; omega) | omega) _))) (hb1.mono (by simp)))
  clear hb1
  go_wp2_with fail
  refine (HO.out _).mono ?_
  rintro e w2 ⟨rfl, hb2⟩
  have B2 := Lib.hid (BB.out.trans (hb2.mono (by omega)))
  clear hb2
  go_wp2_with fail
  refine (HU.out _).mono ?_
  rintro e w' ⟨rfl, rfl⟩
  go_wp2_with fail
  refine (rSame_any 0 0 0 0 _).mono ?_
  rintro e w' ⟨rfl, rfl⟩
  rw [hs]
  go_wp2_with fail
  refine (HF.out _).mono ?_
  rintro e w' ⟨rfl, rfl⟩
  rw [HH.out]
  go_wp2
  go_ret
  exact ⟨rfl, B2.out⟩

end Go.Proofs.Ytiloleochmdfoaa
