/-
  The error of a line of words.
-/
import Derived.Test.YtjmhnmlmnlefaaaNttF
namespace Go.Proofs.Ytjmhnmlmnlefaaa
open Go.RowKit Go.Lib
attribute [local irreducible] World.setCell
set_option linter.unusedSimpArgs false
set_option linter.unusedVariables false


set_option maxHeartbeats 1000000 in
theorem check_arg (a : Option Addr) (n cap : Nat) (w : World) (hr : rightB n = false) : Calls Try.prog 44 #[.slice a n cap] w fun e w' => e = .returned (.int .i64 1) ∧ w = w' := by
  have HR := Lib.hid hr; clear hr
  go_enter Try.func44, Try.ntmps44
  go_wp2_with fail
  refine (right_any _ _).mono ?_
  rintro e w' ⟨rfl, rfl⟩
  rw [HR.out]
  go_wp2
  go_ret
  exact ⟨rfl, rfl⟩
set_option maxHeartbeats 1000000 in
theorem check_run (b off n cap m : Nat) (X : Nat → Nat) (w : World) (hr : rightB n = true) (hn : n ≤ 192) (hm : m ≤ n) (hc : ∀ i, i < n → w.cell? ⟨b, off + i, none⟩ = some (wn (X i))) (hlo : ∀ i, i < m → X i < 18446744069414584321) (hbad : m < n → 18446744069414584321 ≤ X m) :
    Calls Try.prog 44 #[.slice (some ⟨b, off, none⟩) n cap] w fun e w' => e = .returned (.int .i64 (if m < n then 3 else 0)) ∧ w = w' := by
  have HR := Lib.hid hr; have HC := Lib.hid hc; have HL := Lib.hid hlo; have HB := Lib.hid hbad; clear hr hc hlo hbad
  go_enter Try.func44, Try.ntmps44
  go_wp2_with fail
  refine (right_any _ _).mono ?_
  rintro e w' ⟨rfl, rfl⟩
  rw [HR.out]
  go_wp2
  go_loop [11] (fun i => ∃ k : Nat, k ≤ m ∧ i = .int .i64 k) (fun i => n - (RowKit.intOf i).toNat)
  case atStart => exact ⟨0, Nat.zero_le _, rfl⟩
  case round =>
    obtain ⟨k, hk, rfl⟩ := hrel
    rcases (by omega : k < m ∨ (k = m ∧ k < n) ∨ (k = m ∧ k = n)) with q | q | q
    · have hc1 := HC.out k (by omega)
      have hl := HL.out k q
      have hl' : ¬ (18446744069414584321 : Int) ≤ (X k : Int) := by omega
      have hkn : (k : Int) < (n : Int) := by omega
      clear hl
      go_wp2
      go_round
      case rel => exact ⟨k + 1, by omega, by go_num⟩
      case measure => simp [RowKit.intOf]; omega
    · obtain ⟨e, q⟩ := q
      subst e
      have hc1 := HC.out k q
      have hl := HB.out q
      have hl' : (18446744069414584321 : Int) ≤ (X k : Int) := by omega
      clear hl
      go_wp2
      go_ret
      exact ⟨rfl, rfl⟩
    · obtain ⟨e, q⟩ := q
      subst e
      have hkn : ¬ k < n := by omega
      go_wp2
      go_ret
      exact ⟨rfl, rfl⟩

set_option maxHeartbeats 1000000 in
theorem rcheck_arg (a : Option Addr) (n cap : Nat) (w : World) (hr : rightB n = false) : Calls Try.prog 51 #[.slice a n cap] w fun e w' => e = .returned (.int .i64 1) ∧ w = w' := by
  have HR := Lib.hid hr; clear hr
  go_enter Try.func51, Try.ntmps51
  go_wp2_with fail
  refine (divides_any _ _).mono ?_
  rintro e w' ⟨rfl, rfl⟩
  rw [HR.out]
  go_wp2
  go_ret
  exact ⟨rfl, rfl⟩
set_option maxHeartbeats 1000000 in
theorem rcheck_run (b off n cap m : Nat) (X : Nat → Nat) (w : World) (hr : rightB n = true) (hn : n ≤ 192) (hm : m ≤ n) (hc : ∀ i, i < n → w.cell? ⟨b, off + i, none⟩ = some (wn (X i))) (hlo : ∀ i, i < m → X i < 18446744069414584321) (hbad : m < n → 18446744069414584321 ≤ X m) :
    Calls Try.prog 51 #[.slice (some ⟨b, off, none⟩) n cap] w fun e w' => e = .returned (.int .i64 (if m < n then 3 else 0)) ∧ w = w' := by
  have HR := Lib.hid hr; have HC := Lib.hid hc; have HL := Lib.hid hlo; have HB := Lib.hid hbad; clear hr hc hlo hbad
  go_enter Try.func51, Try.ntmps51
  go_wp2_with fail
  refine (divides_any _ _).mono ?_
  rintro e w' ⟨rfl, rfl⟩
  rw [HR.out]
  go_wp2
  go_loop [11] (fun i => ∃ k : Nat, k ≤ m ∧ i = .int .i64 k) (fun i => n - (RowKit.intOf i).toNat)
  case atStart => exact ⟨0, Nat.zero_le _, rfl⟩
  case round =>
    obtain ⟨k, hk, rfl⟩ := hrel
    rcases (by omega : k < m ∨ (k = m ∧ k < n) ∨ (k = m ∧ k = n)) with q | q | q
    · have hc1 := HC.out k (by omega)
      have hl := HL.out k q
      have hl' : ¬ (18446744069414584321 : Int) ≤ (X k : Int) := by omega
      have hkn : (k : Int) < (n : Int) := by omega
      clear hl
      go_wp2
      go_round
      case rel => exact ⟨k + 1, by omega, by go_num⟩
      case measure => simp [RowKit.intOf]; omega
    · obtain ⟨e, q⟩ := q
      subst e
      have hc1 := HC.out k q
      have hl := HB.out q
      have hl' : (18446744069414584321 : Int) ≤ (X k : Int) := by omega
      clear hl
      go_wp2
      go_ret
      exact ⟨rfl, rfl⟩
    · obtain ⟨e, q⟩ := q
      subst e
      have hkn : ¬ k < n := by omega
      go_wp2
      go_ret
      exact ⟨rfl, rfl⟩

end Go.Proofs.Ytjmhnmlmnlefaaa
