/-
  Sides, places, sums: what the laws through the layers share.
-/
import Derived.Test.YtjmhnmlmnlefaaaNttAN
namespace Go.Proofs.Ytjmhnmlmnlefaaa
open Go.RowKit Go.Lib
attribute [local irreducible] World.setCell
set_option linter.unusedSimpArgs false
set_option linter.unusedVariables false


/-- The sides. -/
def lenT (i : Nat) : Nat := ([1, 2, 3, 4, 6, 8, 12, 16, 24, 32, 48, 64, 96, 192] : List Nat).getD i 0
def lenOf (b most : Nat) : Nat := if lenT (b % 14) ≤ most then lenT (b % 14) else if lenT (b % 5) ≤ most then lenT (b % 5) else 1
theorem lenT_right {i : Nat} (h : i < 14) : rightB (lenT i : Nat) = true ∧ 1 ≤ lenT i ∧ lenT i ≤ 192 := by
  match i, h with
  | 0, _ => decide
  | 1, _ => decide
  | 2, _ => decide
  | 3, _ => decide
  | 4, _ => decide
  | 5, _ => decide
  | 6, _ => decide
  | 7, _ => decide
  | 8, _ => decide
  | 9, _ => decide
  | 10, _ => decide
  | 11, _ => decide
  | 12, _ => decide
  | 13, _ => decide
theorem lenOf_right (b most : Nat) (hm : 1 ≤ most) : rightB (lenOf b most : Nat) = true ∧ 1 ≤ lenOf b most ∧ lenOf b most ≤ most := by
  have h1 := lenT_right (Nat.mod_lt b (show 0 < 14 by decide))
  have h2 := lenT_right (Nat.lt_of_lt_of_le (Nat.mod_lt b (show 0 < 5 by decide)) (show 5 ≤ 14 by decide))
  unfold lenOf
  split
  · exact ⟨h1.1, h1.2.1, by assumption⟩
  · split
    · exact ⟨h2.1, h2.2.1, by assumption⟩
    · exact ⟨by decide, Nat.le_refl _, hm⟩
set_option maxHeartbeats 2000000 in
set_option maxRecDepth 100000 in
theorem lengths_any (b most : Nat) (w : World) (hb : b ≤ 255) (hm : 1 ≤ most) (hm2 : most ≤ 192) : Calls Try.prog 33 #[.int .u8 b, .int .i64 most] w fun e w' => e = .returned (.int .i64 (lenOf b most : Nat)) ∧ Below w.heap.size w w' := by
  obtain ⟨q, eq⟩ : ∃ q, q = b % 14 := ⟨_, rfl⟩
  obtain ⟨r, er⟩ : ∃ q, q = b % 5 := ⟨_, rfl⟩
  have hq : (b : Int) % 14 = (q : Int) := by rw [eq]; rfl
  have hr : (b : Int) % 5 = (r : Int) := by rw [er]; rfl
  have q14 : q < 14 := by omega
  have r14 : r < 5 := by omega
  have qi : (q : Int) < 14 := by omega
  have ri : (r : Int) < 5 := by omega
  have HL := Lib.hid (show lenOf b most = if lenT q ≤ most then lenT q else if lenT r ≤ most then lenT r else 1 by unfold lenOf; rw [← eq, ← er])
  have hrow := World.rowIs_alloc w #[.int .i64 1, .int .i64 2, .int .i64 3, .int .i64 4, .int .i64 6, .int .i64 8, .int .i64 12, .int .i64 16, .int .i64 24, .int .i64 32, .int .i64 48, .int .i64 64, .int .i64 96, .int .i64 192] 76 (fun i => .int .i64 (lenT i : Nat)) (fun i hi => by
    match i, hi with
    | 0, _ => rfl
    | 1, _ => rfl
    | 2, _ => rfl
    | 3, _ => rfl
    | 4, _ => rfl
    | 5, _ => rfl
    | 6, _ => rfl
    | 7, _ => rfl
    | 8, _ => rfl
    | 9, _ => rfl
    | 10, _ => rfl
    | 11, _ => rfl
    | 12, _ => rfl
    | 13, _ => rfl)
  have bq := lenT_right q14
  have br := lenT_right (i := r) (by omega)
  obtain ⟨x, ex⟩ : ∃ x, x = lenT q := ⟨_, rfl⟩
  obtain ⟨y, ey⟩ : ∃ x, x = lenT r := ⟨_, rfl⟩
  have c1 := hrow.cell (i := q) q14
  have c2 := hrow.cell (i := r) (Nat.lt_trans r14 (by decide))
  simp only [← ex, ← ey] at c1 c2 bq br HL
  have b1 : (x : Int) ≤ 192 := by omega
  have b2 : (y : Int) ≤ 192 := by omega
  have bm : (most : Int) ≤ 192 := by omega
  have bb : (b : Int) ≤ 255 := by omega
  clear hrow eq er ex ey bq br hb
  by_cases h1 : x ≤ most
  · have HV := Lib.hid (show lenOf b most = x by rw [HL.out, if_pos h1])
    have h1' : ¬ (most : Int) < (x : Int) := by omega
    clear h1 HL
    go_enter Try.func33, Try.ntmps33
    go_wp2
    refine wp_loop_rounds 1 ?_
    rw [rounds_succ]
    go_wp2
    go_ret
    exact ⟨by rw [HV.out]; rfl, (by repeat (first | assumption | exact Below.refl _ _ | refine below_drewN ?_ _ | refine Below.drew ?_ | refine Below.alloc ?_ (by first | (simp; done) | (simp; omega) | omega) _ | refine Below.setCell ?_ (by first | (simp; done) | (simp; omega) | omega) _))⟩
  · by_cases h2 : y ≤ most
    · have HV := Lib.hid (show lenOf b most = y by rw [HL.out, if_neg h1, if_pos h2])
      have h1' : (most : Int) < (x : Int) := by omega
      have h2' : ¬ (most : Int) < (y : Int) := by omega
      clear h1 h2 HL
      go_enter Try.func33, Try.ntmps33
      go_wp2
      refine wp_loop_rounds 2 ?_
      rw [rounds_succ]
      go_wp2
      rw [rounds_succ]
      go_wp2
      go_ret
      exact ⟨by rw [HV.out]; rfl, (by repeat (first | assumption | exact Below.refl _ _ | refine below_drewN ?_ _ | refine Below.drew ?_ | refine Below.alloc ?_ (by first | (simp; done) | (simp; omega) | omega) _ | refine Below.setCell ?_ (by first | (simp; done) | (simp; omega) | omega) _))⟩
    · have HV := Lib.hid (show lenOf b most = 1 by rw [HL.out, if_neg h1, if_neg h2])
      have h1' : (most : Int) < (x : Int) := by omega
      have h2' : (most : Int) < (y : Int) := by omega
      have h3' : ¬ (most : Int) < 1 := by omega
      clear h1 h2 HL
      go_enter Try.func33, Try.ntmps33
      go_wp2
      refine wp_loop_rounds 2 ?_
      rw [rounds_succ]
      go_wp2
      rw [rounds_succ]
      go_wp2
      go_ret
      exact ⟨by rw [HV.out]; rfl, (by repeat (first | assumption | exact Below.refl _ _ | refine below_drewN ?_ _ | refine Below.drew ?_ | refine Below.alloc ?_ (by first | (simp; done) | (simp; omega) | omega) _ | refine Below.setCell ?_ (by first | (simp; done) | (simp; omega) | omega) _))⟩
set_option maxHeartbeats 2000000 in
theorem among_any (a : Int) (n : Nat) (w : World) (h0 : 0 < n) (h1 : n ≤ 192) : Calls Try.prog 53 #[.int .i64 a, .int .i64 n] w fun e w' => e = .returned (.int .i64 (a % n)) ∧ w = w' := by
  have t1 := Int.lt_tmod_of_pos a (show (0 : Int) < n by omega)
  have t2 := Int.tmod_lt_of_pos a (show (0 : Int) < n by omega)
  have e0 : (a.tmod n) % (n : Int) = a % n := by
    have hh := Int.mul_tdiv_add_tmod a n
    have h2 := Int.add_mul_emod_self_left (a.tmod n) n (a.tdiv n)
    rw [← h2, Int.add_comm, hh]
  obtain ⟨q, eq⟩ : ∃ q, q = a.tmod n := ⟨_, rfl⟩
  rw [← eq] at t1 t2 e0
  have n1 : (1 : Int) ≤ n := by omega
  have n2 : (n : Int) ≤ 192 := by omega
  have zn : ¬ n = 0 := by omega
  have eq' := eq.symm
  clear eq
  by_cases hq : q < 0
  · have HV := Lib.hid (show a % n = q + n by rw [← e0, ← Int.add_emod_right, Int.emod_eq_of_lt (by omega) (by omega)])
    clear e0 h0 h1
    go_enter Try.func53, Try.ntmps53
    go_wp2
    go_ret
    exact ⟨by rw [HV.out]; rfl, rfl⟩
  · have HV := Lib.hid (show a % n = q by rw [← e0, Int.emod_eq_of_lt (by omega) (by omega)])
    clear e0 h0 h1
    go_enter Try.func53, Try.ntmps53
    go_wp2
    go_ret
    exact ⟨by rw [HV.out]; rfl, rfl⟩
set_option maxHeartbeats 2000000 in
set_option maxRecDepth 100000 in
theorem spot_any (n0 n1 n2 a b c : Nat) (w : World) (h1 : n1 ≤ 192) (h2 : n2 ≤ 192) (ha : a ≤ 192) (hb : b ≤ 192) (hc : c ≤ 192) : Calls Try.prog 55 #[.agg #[.int .i64 a, .int .i64 b, .int .i64 c], .agg #[.int .i64 n0, .int .i64 n1, .int .i64 n2]] w fun e w' => e = .returned (.int .i64 ((a * n1 + b) * n2 + c : Nat)) ∧ Below w.heap.size w w' := by
  have p1 : a * n1 ≤ 36864 := Nat.mul_le_mul ha h1
  have p2 : (a * n1 + b) * n2 ≤ 37056 * 192 := Nat.mul_le_mul (by omega) h2
  have a0 : (0 : Int) ≤ n1 ∧ (n1 : Int) ≤ 192 := by omega
  have a1 : (0 : Int) ≤ n2 ∧ (n2 : Int) ≤ 192 := by omega
  have a2 : (0 : Int) ≤ a ∧ (a : Int) ≤ 192 := by omega
  have a3 : (0 : Int) ≤ b ∧ (b : Int) ≤ 192 := by omega
  have a4 : (0 : Int) ≤ c ∧ (c : Int) ≤ 192 := by omega
  have q1 : wrap64 ((a : Int) * n1) = ((a * n1 : Nat) : Int) := by rw [Int.natCast_mul]; exact wrap_id _ (by rw [← Int.natCast_mul]; omega) (by rw [← Int.natCast_mul]; omega)
  obtain ⟨p, ep⟩ : ∃ p, p = a * n1 := ⟨_, rfl⟩
  rw [← ep] at p1 p2 q1
  have q2 : wrap64 (((p + b : Nat) : Int) * n2) = (((p + b) * n2 : Nat) : Int) := by rw [Int.natCast_mul]; exact wrap_id _ (by rw [← Int.natCast_mul]; omega) (by rw [← Int.natCast_mul]; omega)
  obtain ⟨q, eq⟩ : ∃ q, q = (p + b) * n2 := ⟨_, rfl⟩
  rw [← ep, ← eq]
  rw [← eq] at p2 q2
  have hq1 := congrArg (Value.int IntKind.i64) q1
  have hq2 := congrArg (Value.int IntKind.i64) q2
  rw [Int.natCast_add] at hq2
  have b1 : (p : Int) ≤ 36864 := by omega
  have b2 : (q : Int) ≤ 7114752 := by omega
  have HQ := Lib.hid (show ((q + c : Nat) : Int) = (q : Int) + (c : Int) from Int.natCast_add _ _)
  clear q1 q2 eq ep p1 p2 h1 h2 ha hb hc
  obtain ⟨a00, a01⟩ := a0; obtain ⟨a10, a11⟩ := a1; obtain ⟨a20, a21⟩ := a2; obtain ⟨a30, a31⟩ := a3; obtain ⟨a40, a41⟩ := a4
  rw [HQ.out]
  go_enter Try.func55, Try.ntmps55
  go_wp2
  go_ret
  exact ⟨rfl, (by repeat (first | assumption | exact Below.refl _ _ | refine below_drewN ?_ _ | refine Below.drew ?_ | refine Below.alloc ?_ (by first | (simp; done) | (simp; omega) | omega) _ | refine Below.setCell ?_ (by first | (simp; done) | (simp; omega) | omega) _))⟩

end Go.Proofs.Ytjmhnmlmnlefaaa
