/-
  The law NttRoots.
-/
import Derived.Test.YtjmhnmlmnlefaaaNttV
namespace Go.Proofs.Ytjmhnmlmnlefaaa
open Go.RowKit Go.Lib
attribute [local irreducible] World.setCell
set_option linter.unusedSimpArgs false
set_option linter.unusedVariables false


theorem pw_ne {n : Nat} (h0 : 0 < n) (hd : 192 % n = 0) {k : Nat} (hk : 0 < k) (hkn : k < n) : pw (rt n) k ≠ 1 := by
  intro e
  obtain ⟨u, hu⟩ := (rt_root h0 hd).unit k hk hkn
  rw [e] at hu
  have : (0 : F) = 1 := by grind
  exact absurd this (by decide)
theorem wd_one {a : F} : ((((a.val : Nat) : Int) == 1) = true) ↔ a = 1 := by
  rw [beq_iff_eq]
  constructor
  · intro h; apply Fin.ext; show a.val = 1; omega
  · rintro rfl; rfl
theorem roots_bad (n : Int) (w : World) (hr : rightB n = false) : Calls Try.prog 6 #[.int .i64 n] w fun e w' => e = .returned (.bool true) ∧ Below w.heap.size w w' := by
  have HR := Lib.hid hr; clear hr
  go_enter Try.func6, Try.ntmps6
  go_wp2_with fail
  refine (awake_any _).mono ?_
  rintro e w1 ⟨rfl, hb1⟩
  have HB := Lib.hid hb1; clear hb1
  go_wp2_with fail
  refine (Root_bad n _ HR.out).mono ?_
  rintro e w' ⟨rfl, rfl⟩
  go_wp2_with fail
  refine (DocRoot_bad n _ HR.out).mono ?_
  rintro e w' ⟨rfl, rfl⟩
  go_wp2
  go_ret
  exact ⟨rfl, HB.out⟩
set_option maxHeartbeats 2000000 in
theorem roots_ok (n : Nat) (w : World) (hr : rightB n = true) : Calls Try.prog 6 #[.int .i64 n] w fun e w' => e = .returned (.bool true) ∧ Below w.heap.size w w' := by
  obtain ⟨h0, hd, hn⟩ := right_le hr
  have HR := Lib.hid (And.intro hr hd); clear hr hd
  go_enter Try.func6, Try.ntmps6
  go_wp2_with fail
  refine (awake_any _).mono ?_
  rintro e w1 ⟨rfl, hb1⟩
  have HB := Lib.hid hb1; clear hb1
  go_wp2_with fail
  refine (Root_ok n _ HR.out.1).mono ?_
  rintro e w2 ⟨rfl, k, hw2⟩
  have HB2 := Lib.hid (show Below w.heap.size w w2 by rw [hw2]; exact below_drewN HB.out k)
  clear hw2 HB
  go_wp2_with fail
  refine (DocRoot_ok n _ HR.out.1).mono ?_
  rintro e w' ⟨rfl, rfl⟩
  obtain ⟨r, er⟩ : ∃ r, r = rt n := ⟨_, rfl⟩
  rw [← er]
  have ER := Lib.hid er; clear er
  go_wp2
  go_loop [7, 8] (fun p i => ∃ k : Nat, k ≤ n ∧ p = wd (pw r k) ∧ i = .int .i64 ((k : Int) + 1)) (fun _ i => n + 1 - (RowKit.intOf i).toNat)
  case atStart => exact ⟨0, Nat.zero_le _, rfl, rfl⟩
  case round =>
    obtain ⟨k, hk, rfl, rfl⟩ := hrel
    by_cases hkn : k < n
    · have hq : ((((pw r k * r).val : Nat) : Int) == 1) = ((((k : Int) + 1)) == (n : Int)) := by
        rw [← pw_succ]
        by_cases e : k + 1 = n
        · have h1 : pw r (k + 1) = 1 := by rw [e, ER.out]; exact rt_one h0 HR.out.2
          rw [wd_one.2 h1]; symm; rw [beq_iff_eq]; omega
        · have h1 : pw r (k + 1) ≠ 1 := by rw [ER.out]; exact pw_ne h0 HR.out.2 (by omega) (by omega)
          have h2 : ((((pw r (k + 1)).val : Nat) : Int) == 1) = false := by
            cases hh : ((((pw r (k + 1)).val : Nat) : Int) == 1)
            · rfl
            · exact absurd (wd_one.1 hh) h1
          rw [h2]; symm; rw [beq_eq_false_iff_ne]; omega
      have hq2 : (!(((((pw r k * r).val : Nat) : Int) == 1) == (((k : Int) + 1) == (n : Int)))) = false := by rw [hq]; simp
      clear hq
      have hkl : (k : Int) + 1 ≤ (n : Int) := by omega
      go_wp2_with (go_at_call 24; refine (rmul_any _ _ _).mono ?_; rintro e w' ⟨rfl, rfl⟩)
      go_round
      case rel => exact ⟨k + 1, by omega, rfl, by go_num⟩
      case measure => simp [RowKit.intOf]; omega
    · have hkl : ¬ (k : Int) + 1 ≤ (n : Int) := by omega
      go_wp2
      go_ret
      exact ⟨rfl, HB2.out⟩
theorem roots_any (n : Int) (w : World) : Calls Try.prog 6 #[.int .i64 n] w fun e w' => e = .returned (.bool true) ∧ Below w.heap.size w w' := by
  cases h : rightB n
  · exact roots_bad n w h
  · have h1 : 1 ≤ n := by
      unfold rightB at h
      rw [Bool.and_eq_true] at h
      exact of_decide_eq_true h.1
    obtain ⟨m, rfl⟩ : ∃ m : Nat, n = m := ⟨n.toNat, by omega⟩
    exact roots_ok m w h

end Go.Proofs.Ytjmhnmlmnlefaaa
