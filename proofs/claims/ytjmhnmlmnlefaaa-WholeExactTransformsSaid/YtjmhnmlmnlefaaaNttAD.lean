/-
  Places and their numbers.
-/
import Derived.Test.YtjmhnmlmnlefaaaNttAC
namespace Go.Proofs.Ytjmhnmlmnlefaaa
open Go.RowKit Go.Lib
attribute [local irreducible] World.setCell
set_option linter.unusedSimpArgs false
set_option linter.unusedVariables false


/-- The place of a number. -/
def at0 (n1 n2 i : Nat) : Nat := i / (n1 * n2)
def at1 (n1 n2 i : Nat) : Nat := i / n2 % n1
def at2 (n2 i : Nat) : Nat := i % n2
set_option maxHeartbeats 2000000 in
set_option maxRecDepth 100000 in
theorem At_any (n0 n1 n2 i : Nat) (w : World) (h1 : 0 < n1 ∧ n1 ≤ 192) (h2 : 0 < n2 ∧ n2 ≤ 192) (hi : i ≤ 7077888) : Calls Try.prog 20 #[.agg #[.int .i64 n0, .int .i64 n1, .int .i64 n2], .int .i64 i] w fun e w' => e = .returned (.agg #[.int .i64 (at0 n1 n2 i), .int .i64 (at1 n1 n2 i), .int .i64 (at2 n2 i)]) ∧ Below w.heap.size w w' := by
  have pb : n1 * n2 ≤ 36864 := Nat.mul_le_mul h1.2 h2.2
  have pp : 0 < n1 * n2 := Nat.mul_pos h1.1 h2.1
  have HQ := Lib.hid (show at0 n1 n2 i = i / (n1 * n2) from rfl)
  obtain ⟨q, eq⟩ : ∃ q, q = n1 * n2 := ⟨_, rfl⟩
  rw [← eq] at pb pp HQ
  have hq := congrArg (Value.int IntKind.i64) (show wrap64 ((n1 : Int) * (n2 : Int)) = (q : Int) by rw [eq, Int.natCast_mul]; exact wrap_id _ (by rw [← Int.natCast_mul, ← eq]; omega) (by rw [← Int.natCast_mul, ← eq]; omega))
  have a1 : (1 : Int) ≤ n1 ∧ (n1 : Int) ≤ 192 := by omega
  have a2 : (1 : Int) ≤ n2 ∧ (n2 : Int) ≤ 192 := by omega
  obtain ⟨a10, a11⟩ := a1; obtain ⟨a20, a21⟩ := a2
  have aq0 : (1 : Int) ≤ q := by omega
  have ai : (i : Int) ≤ 7077888 := by omega
  clear eq h1 h2 pb pp hi
  go_enter Try.func20, Try.ntmps20
  go_wp2
  refine region_headq 19 (by kernel_rfl) (by kernel_rfl) ?_
  simp only [List.take_succ_cons, List.take_zero, List.drop_succ_cons, List.drop_zero]
  repeat (go_big_quiet_step (fail))
  refine wpQuiet_nil ?_
  rintro _ ⟨nq, rfl⟩
  go_wp2
  refine bodyPost_ret (v := .agg #[.int .i64 (wrap64 ((i : Int) / (q : Int))), .int .i64 ((wrap64 ((i : Int) / (n2 : Int))).tmod n1), .int .i64 ((i : Int) % n2)]) (by simp [results, Try.results20, go_sem, *]) rfl ⟨?_, (by repeat (first | assumption | exact Below.refl _ _ | refine below_drewN ?_ _ | refine Below.alloc ?_ (by first | (simp; done) | (simp; omega) | omega) _ | refine Below.setCell ?_ (by first | (simp; done) | (simp; omega) | omega) _))⟩
  have e1 : wrap64 ((i : Int) / (q : Int)) = ((i / q : Nat) : Int) := by
    rw [← Int.natCast_ediv]
    have := Nat.div_le_self i q
    generalize i / q = d at this ⊢
    exact wrap_id _ (by omega) (by omega)
  have e2 : wrap64 ((i : Int) / (n2 : Int)) = ((i / n2 : Nat) : Int) := by
    rw [← Int.natCast_ediv]
    have := Nat.div_le_self i n2
    generalize i / n2 = d at this ⊢
    exact wrap_id _ (by omega) (by omega)
  rw [e1, e2, HQ.out]
  rfl
set_option maxHeartbeats 2000000 in
set_option maxRecDepth 100000 in
theorem Number_any (n0 n1 n2 a b c : Nat) (w : World) (h1 : n1 ≤ 192) (h2 : n2 ≤ 192) (ha : a ≤ 192) (hb : b ≤ 192) (hc : c ≤ 192) : Calls Try.prog 21 #[.agg #[.int .i64 n0, .int .i64 n1, .int .i64 n2], .agg #[.int .i64 a, .int .i64 b, .int .i64 c]] w fun e w' => e = .returned (.int .i64 ((a * n1 + b) * n2 + c : Nat)) ∧ Below w.heap.size w w' := by
  have p1 : a * n1 ≤ 36864 := Nat.mul_le_mul ha h1
  have p2 : (a * n1 + b) * n2 ≤ 37056 * 192 := Nat.mul_le_mul (by omega) h2
  have a0 : (0 : Int) ≤ n1 ∧ (n1 : Int) ≤ 192 := by omega
  have a1 : (0 : Int) ≤ n2 ∧ (n2 : Int) ≤ 192 := by omega
  have a2 : (0 : Int) ≤ a ∧ (a : Int) ≤ 192 := by omega
  have a3 : (0 : Int) ≤ b ∧ (b : Int) ≤ 192 := by omega
  have a4 : (0 : Int) ≤ c ∧ (c : Int) ≤ 192 := by omega
  have q1 : wrap64 ((a : Int) * n1) = ((a * n1 : Nat) : Int) := by rw [Int.natCast_mul]; exact wrap_id _ (by rw [← Int.natCast_mul]; omega) (by rw [← Int.natCast_mul]; omega)
  obtain ⟨p, ep⟩ : ∃ p, p = a * n1 := ⟨_, rfl⟩
  rw [← ep] at p1 p2 q1
  have q2 : wrap64 (((p + b : Nat) : Int) * n2) = (((p + b) * n2 : Nat) : Int) := by rw [Int.natCast_mul]; exact wrap_id _ (by rw [← Int.natCast_mul]; omega) (by rw [← Int.natCast_mul]; omega)
  obtain ⟨q, eq⟩ : ∃ q, q = (p + b) * n2 := ⟨_, rfl⟩
  rw [← ep, ← eq]
  rw [← eq] at p2 q2
  have hq1 := congrArg (Value.int IntKind.i64) q1
  have hq2 := congrArg (Value.int IntKind.i64) q2
  rw [Int.natCast_add] at hq2
  have b1 : (p : Int) ≤ 36864 := by omega
  have b2 : (q : Int) ≤ 7114752 := by omega
  have HQ := Lib.hid (show ((q + c : Nat) : Int) = (q : Int) + (c : Int) from Int.natCast_add _ _)
  clear q1 q2 eq ep p1 p2 h1 h2 ha hb hc
  obtain ⟨a00, a01⟩ := a0; obtain ⟨a10, a11⟩ := a1; obtain ⟨a20, a21⟩ := a2; obtain ⟨a30, a31⟩ := a3; obtain ⟨a40, a41⟩ := a4
  rw [HQ.out]
  go_enter Try.func21, Try.ntmps21
  go_wp2
  go_ret
  exact ⟨rfl, (by repeat (first | assumption | exact Below.refl _ _ | refine below_drewN ?_ _ | refine Below.alloc ?_ (by first | (simp; done) | (simp; omega) | omega) _ | refine Below.setCell ?_ (by first | (simp; done) | (simp; omega) | omega) _))⟩
theorem few_box (n0 n1 n2 c : Int) (len cap : Nat) (a : Option Addr) (w : World) (hl : len ≤ 17592186044416)
    (H : ∀ w', Below w.heap.size w w' → Calls Try.prog 36 #[.agg #[.int .i64 n0, .int .i64 n1, .int .i64 n2, .slice a len cap]] w' fun e w'' => e = .returned (.int .i64 c) ∧ Below w'.heap.size w' w'') : Calls Try.prog 14 #[.agg #[.int .i64 n0, .int .i64 n1, .int .i64 n2, .slice a len cap]] w fun e w' => e = .returned (.bool (decide (c ≠ 0 ∨ len ≤ 600))) ∧ Below w.heap.size w w' := by
  have HC := Lib.hid H; clear H
  have hli : (len : Int) ≤ 17592186044416 := by omega
  go_enter Try.func14, Try.ntmps14
  go_wp2_with fail
  refine (HC.out _ ((by repeat (first | assumption | exact Below.refl _ _ | refine below_drewN ?_ _ | refine Below.alloc ?_ (by first | (simp; done) | (simp; omega) | omega) _ | refine Below.setCell ?_ (by first | (simp; done) | (simp; omega) | omega) _)))).mono ?_
  rintro e w2 ⟨rfl, hb⟩
  have HB := Lib.hid (Below.trans (show Below w.heap.size w (w.alloc (.cells #[.int .i64 n0, .int .i64 n1, .int .i64 n2, .slice a len cap] 26)) from (by repeat (first | assumption | exact Below.refl _ _ | refine below_drewN ?_ _ | refine Below.alloc ?_ (by first | (simp; done) | (simp; omega) | omega) _ | refine Below.setCell ?_ (by first | (simp; done) | (simp; omega) | omega) _))) (hb.mono (by simp)))
  have c3 : w2.cell? ⟨w.heap.size, 3, none⟩ = some (.slice a len cap) := (hb.cell (p := ⟨w.heap.size, 3, none⟩) (by simp)).trans (by go_simp)
  clear hb HC
  by_cases q : c = 0
  · by_cases r : (len : Int) ≤ 600
    · have hd : decide (c ≠ 0 ∨ len ≤ 600) = true := by rw [decide_eq_true_eq]; omega
      have HD := Lib.hid hd
      subst q
      clear hd
      go_wp2
      go_ret
      exact ⟨by rw [HD.out]; rfl, HB.out⟩
    · have hd : decide (c ≠ 0 ∨ len ≤ 600) = false := by rw [decide_eq_false_iff_not]; omega
      have HD := Lib.hid hd
      subst q
      clear hd
      go_wp2
      go_ret
      exact ⟨by rw [HD.out]; show Ending.returned (.bool (decide ((len : Int) ≤ 600))) = _; rw [decide_eq_false (by omega)], HB.out⟩
  · have hd : decide (c ≠ 0 ∨ len ≤ 600) = true := by rw [decide_eq_true_eq]; omega
    have HD := Lib.hid hd
    have q' : (c != 0) = true := by rw [bne_iff_ne]; exact q
    clear hd
    go_wp2
    go_ret
    exact ⟨by rw [HD.out]; rfl, HB.out⟩

end Go.Proofs.Ytjmhnmlmnlefaaa
