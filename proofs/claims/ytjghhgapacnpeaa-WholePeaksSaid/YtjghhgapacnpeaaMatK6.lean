/-
  patterson: place, number, within, sides.
-/
import Derived.Test.YtjghhgapacnpeaaMatK5
namespace Go.Proofs.Ytjghhgapacnpeaa
open Go.RowKit Go.Lib
attribute [local irreducible] World.setCell
set_option linter.unusedSimpArgs false
set_option linter.unusedVariables false


set_option maxHeartbeats 2000000 in
set_option maxRecDepth 100000 in
theorem place_any (n0 n1 n2 i : Nat) (w : World) (h1 : 0 < n1 ∧ n1 ≤ 192) (h2 : 0 < n2 ∧ n2 ≤ 192) (hi : i ≤ 7077888) : Calls Try.prog 33 #[.agg #[.int .i64 n0, .int .i64 n1, .int .i64 n2], .int .i64 i] w fun e w' => e = .returned (.agg #[.int .i64 (at0 n1 n2 i), .int .i64 (at1 n1 n2 i), .int .i64 (at2 n2 i)]) ∧ Below w.heap.size w w' := by
  have HQ := Lib.hid (show at0 n1 n2 i = i / n2 / n1 from at0_def _ _ _)
  have a1 : (1 : Int) ≤ n1 ∧ (n1 : Int) ≤ 192 := by omega
  have a2 : (1 : Int) ≤ n2 ∧ (n2 : Int) ≤ 192 := by omega
  obtain ⟨a10, a11⟩ := a1; obtain ⟨a20, a21⟩ := a2
  have hd := Nat.div_le_self i n2
  have e2 : wrap64 ((i : Int) / (n2 : Int)) = ((i / n2 : Nat) : Int) := by
    rw [← Int.natCast_ediv]
    generalize i / n2 = d at hd ⊢
    exact wrap_id _ (by omega) (by omega)
  have hd2 := Nat.div_le_self (i / n2) n1
  have e1 : wrap64 (((i / n2 : Nat) : Int) / (n1 : Int)) = ((i / n2 / n1 : Nat) : Int) := by
    rw [← Int.natCast_ediv]
    generalize i / n2 / n1 = d at hd2 ⊢
    exact wrap_id _ (by omega) (by omega)
  obtain ⟨d, ed⟩ : ∃ d, d = i / n2 := ⟨_, rfl⟩
  obtain ⟨c, ec⟩ : ∃ c, c = d / n1 := ⟨_, rfl⟩
  rw [← ed] at hd hd2 e1 e2 HQ
  rw [← ec] at e1 hd2 HQ
  have ai : (i : Int) ≤ 7077888 := by omega
  have ad : (d : Int) ≤ 7077888 := by omega
  have HD := Lib.hid ed
  have q2 := congrArg (Value.int IntKind.i64) e2
  have q1 := congrArg (Value.int IntKind.i64) e1
  clear h1 h2 hi hd hd2 ed ec e1 e2
  go_enter Try.func33, Try.ntmps33
  go_wp2
  refine region_headq 19 (by kernel_rfl) (by kernel_rfl) ?_
  simp only [List.take_succ_cons, List.take_zero, List.drop_succ_cons, List.drop_zero]
  repeat (go_big_quiet_step (fail))
  refine wpQuiet_nil ?_
  rintro _ ⟨nq, rfl⟩
  go_wp2
  refine bodyPost_ret (v := .agg #[.int .i64 c, .int .i64 ((d : Int) % n1), .int .i64 ((i : Int) % n2)]) (by simp [results, Try.results33, go_sem, *]) rfl ⟨?_, (by repeat (first | assumption | exact Below.refl _ _ | refine below_drewN ?_ _ | refine Below.drew ?_ | refine Below.alloc ?_ (by first | (simp; done) | (simp; omega) | omega) _ | refine Below.setCell ?_ (by first | (simp; done) | (simp; omega) | omega) _))⟩
  rw [HQ.out]
  unfold at1 at2
  rw [← HD.out]
  rfl
set_option maxHeartbeats 2000000 in
set_option maxRecDepth 100000 in
theorem number_any (n0 n1 n2 a b c : Nat) (w : World) (h1 : n1 ≤ 192) (h2 : n2 ≤ 192) (ha : a ≤ 192) (hb : b ≤ 192) (hc : c ≤ 192) : Calls Try.prog 38 #[.agg #[.int .i64 n0, .int .i64 n1, .int .i64 n2], .agg #[.int .i64 a, .int .i64 b, .int .i64 c]] w fun e w' => e = .returned (.int .i64 ((a * n1 + b) * n2 + c : Nat)) ∧ Below w.heap.size w w' := by
  have p1 : a * n1 ≤ 36864 := Nat.mul_le_mul ha h1
  have p2 : (a * n1 + b) * n2 ≤ 37056 * 192 := Nat.mul_le_mul (by omega) h2
  have a0 : (0 : Int) ≤ n1 ∧ (n1 : Int) ≤ 192 := by omega
  have a1 : (0 : Int) ≤ n2 ∧ (n2 : Int) ≤ 192 := by omega
  have a2 : (0 : Int) ≤ a ∧ (a : Int) ≤ 192 := by omega
  have a3 : (0 : Int) ≤ b ∧ (b : Int) ≤ 192 := by omega
  have a4 : (0 : Int) ≤ c ∧ (c : Int) ≤ 192 := by omega
  have q1 : wrap64 ((a : Int) * n1) = ((a * n1 : Nat) : Int) := by rw [Int.natCast_mul]; exact wrap_id _ (by rw [← Int.natCast_mul]; omega) (by rw [← Int.natCast_mul]; omega)
  obtain ⟨p, ep⟩ : ∃ p, p = a * n1 := ⟨_, rfl⟩
  rw [← ep] at p1 p2 q1
  have q2 : wrap64 (((p + b : Nat) : Int) * n2) = (((p + b) * n2 : Nat) : Int) := by rw [Int.natCast_mul]; exact wrap_id _ (by rw [← Int.natCast_mul]; omega) (by rw [← Int.natCast_mul]; omega)
  obtain ⟨q, eq⟩ : ∃ q, q = (p + b) * n2 := ⟨_, rfl⟩
  rw [← ep, ← eq]
  rw [← eq] at p2 q2
  have hq1 := congrArg (Value.int IntKind.i64) q1
  have hq2 := congrArg (Value.int IntKind.i64) q2
  rw [Int.natCast_add] at hq2
  have b1 : (p : Int) ≤ 36864 := by omega
  have b2 : (q : Int) ≤ 7114752 := by omega
  have HQ := Lib.hid (show ((q + c : Nat) : Int) = (q : Int) + (c : Int) from Int.natCast_add _ _)
  clear q1 q2 eq ep p1 p2 h1 h2 ha hb hc
  obtain ⟨a00, a01⟩ := a0; obtain ⟨a10, a11⟩ := a1; obtain ⟨a20, a21⟩ := a2; obtain ⟨a30, a31⟩ := a3; obtain ⟨a40, a41⟩ := a4
  rw [HQ.out]
  go_enter Try.func38, Try.ntmps38
  go_wp2
  go_ret
  exact ⟨rfl, (by repeat (first | assumption | exact Below.refl _ _ | refine below_drewN ?_ _ | refine Below.drew ?_ | refine Below.alloc ?_ (by first | (simp; done) | (simp; omega) | omega) _ | refine Below.setCell ?_ (by first | (simp; done) | (simp; omega) | omega) _))⟩

end Go.Proofs.Ytjghhgapacnpeaa
