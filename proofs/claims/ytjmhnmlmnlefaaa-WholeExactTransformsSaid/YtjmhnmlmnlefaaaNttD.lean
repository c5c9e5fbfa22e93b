/-
  Words modulo the prime: powers.
-/
import Derived.Test.YtjmhnmlmnlefaaaNttC
namespace Go.Proofs.Ytjmhnmlmnlefaaa
open Go.RowKit Go.Lib
attribute [local irreducible] World.setCell
set_option linter.unusedSimpArgs false
set_option linter.unusedVariables false


theorem pw_half (s y : F) (m : Nat) : (if m % 2 = 1 then s * y else s) * pw (y * y) (m / 2) = s * pw y m := by
  rw [show y * y = pw y 2 by rw [pw_succ, pw_one], ← pw_mul]
  rcases Nat.mod_two_eq_zero_or_one m with e | e
  · rw [if_neg (by omega), show 2 * (m / 2) = m by omega]
  · rw [if_pos e]
    have q : pw y m = pw y (2 * (m / 2) + 1) := by congr 1; omega
    rw [q, pw_succ]; grind
set_option maxHeartbeats 1000000 in
theorem power_any (x : F) (n : Nat) (w : World) (hn : n < 18446744073709551616) : Calls Try.prog 61 #[wd x, wn n] w fun e w' => e = .returned (wd (pw x n)) ∧ ∃ k, w' = w.drewN k := by
  go_enter Try.func61, Try.ntmps61
  go_wp2

  go_loopw [0, 1, 5] (fun a b c wr => ∃ (y s : F) (m k : Nat), a = wd y ∧ b = wn m ∧ c = wd s ∧ wr = w.drewN k ∧ RowKit.Hid (s * pw y m = pw x n) ∧ m < 18446744073709551616) (fun _ b _ _ => (RowKit.intOf b).toNat)
  case atStart => exact ⟨_, 1, _, 0, rfl, rfl, rfl, rfl, by show _ = _; grind, hn⟩
  case round =>
    obtain ⟨y, s, m, k, rfl, rfl, rfl, rfl, hs, hm⟩ := hrel
    go_wp2_with (go_at_call 39; refine (mul_any _ _ _).mono ?_; rintro e w' ⟨rfl, k', rfl⟩)
    · go_roundw
      case rel =>
        refine ⟨_, _, m / 2, _, rfl, congrArg (Value.int IntKind.u64) (by omega), rfl, rfl, ?_, by omega⟩
        have e := pw_half s y m
        rw [if_pos (by have h : ((m : Int) % 2 == 1) = true := by assumption
                       have := eq_of_beq h; omega)] at e
        exact e.trans hs.out
      case measure => simp [RowKit.intOf]; omega
    · go_roundw
      case rel =>
        refine ⟨_, _, m / 2, _, rfl, congrArg (Value.int IntKind.u64) (by omega), rfl, rfl, ?_, by omega⟩
        have e := pw_half s y m
        rw [if_neg (by have h : ((m : Int) % 2 == 1) = false := by assumption
                       have := ne_of_beq_false h; omega)] at e
        exact e.trans hs.out
      case measure => simp [RowKit.intOf]; omega
    · obtain rfl : m = 0 := by omega
      have e : s = pw x n := by rw [← hs.out, pw_zero]; grind
      have E := Lib.hid e; clear e hs
      go_ret
      exact ⟨by rw [← E.out]; rfl, _, rfl⟩
theorem root_arg (n : Int) (h1 : 1 ≤ n) : (18446744069414584320 : Int) / n = (((PP - 1) / n.toNat : Nat) : Int) := by
  obtain ⟨m, rfl⟩ : ∃ m : Nat, n = m := ⟨n.toNat, by omega⟩
  rfl
set_option maxRecDepth 100000 in
theorem root_any (n : Int) (w : World) (h1 : 1 ≤ n) (h2 : n ≤ 192) : Calls Try.prog 46 #[.int .i64 n] w fun e w' => e = .returned (wd (rt n.toNat)) ∧ ∃ k, w' = w.drewN k := by
  have hq : (PP - 1) / n.toNat < 18446744073709551616 := Nat.lt_of_le_of_lt (Nat.div_le_self _ _) (by decide)
  have HQ := Lib.hid hq; clear hq
  have hne : ¬ n = 0 := by omega
  go_enter Try.func46, Try.ntmps46
  go_wp2_with fail
  rw [root_arg n h1]
  refine (power_any 7 _ _ HQ.out).mono ?_
  rintro e w' ⟨rfl, k, rfl⟩
  go_wp2
  go_ret
  exact ⟨rfl, _, rfl⟩
/-- Is n a length? -/
def rightB (n : Int) : Bool := decide (1 ≤ n) && decide (192 % n = 0)
theorem right_any (n : Int) (w : World) : Calls Try.prog 48 #[.int .i64 n] w fun e w' => e = .returned (.bool (rightB n)) ∧ w = w' := by
  by_cases h : 1 ≤ n
  · have hne : ¬ n = 0 := by omega
    go_enter Try.func48, Try.ntmps48
    go_wp2
    go_ret
    refine ⟨ret_bool ?_, rfl⟩
    unfold rightB
    rw [decide_eq_true (p := 1 ≤ n) h, Bool.true_and]; rfl
  · go_enter Try.func48, Try.ntmps48
    go_wp2
    go_ret
    refine ⟨ret_bool ?_, rfl⟩
    unfold rightB
    rw [decide_eq_false (p := 1 ≤ n) (by omega)]; rfl
theorem divides_any (n : Int) (w : World) : Calls Try.prog 49 #[.int .i64 n] w fun e w' => e = .returned (.bool (rightB n)) ∧ w = w' := by
  by_cases h : 1 ≤ n
  · by_cases h2 : n ≤ 192
    · have hne : ¬ n = 0 := by omega
      go_enter Try.func49, Try.ntmps49
      go_wp2
      go_ret
      refine ⟨ret_bool ?_, rfl⟩
      unfold rightB
      rw [decide_eq_true (p := 1 ≤ n) h, Bool.true_and]; rfl
    · go_enter Try.func49, Try.ntmps49
      go_wp2
      go_ret
      refine ⟨ret_bool ?_, rfl⟩
      unfold rightB
      rw [decide_eq_false (p := 192 % n = 0) (by rw [Int.emod_eq_of_lt (by omega) (by omega)]; omega), Bool.and_false]
  · go_enter Try.func49, Try.ntmps49
    go_wp2
    go_ret
    refine ⟨ret_bool ?_, rfl⟩
    unfold rightB
    rw [decide_eq_false (p := 1 ≤ n) (by omega)]; rfl
theorem radd_any (a b : F) (w : World) : Calls Try.prog 47 #[wd a, wd b] w fun e w' => e = .returned (wd (a + b)) ∧ w = w' := by
  have ha := F.lt a
  have hb := F.lt b
  rcases (by omega : a.val + b.val < 18446744069414584321 ∨ (0 < b.val ∧ 18446744069414584321 ≤ a.val + b.val)) with h | h
  · have e := add_v1 a b h
    have hx : (a.val : Int) + (b.val : Int) = (((a + b : F).val : Nat) : Int) := by omega
    have HX := Lib.hid hx; clear hx e
    go_enter Try.func47, Try.ntmps47
    go_wp2
    go_ret
    exact ⟨by rw [HX.out]; rfl, rfl⟩
  · have e := add_v2 a b h.2
    have hx : (a.val : Int) - (18446744069414584321 - (b.val : Int)) = (((a + b : F).val : Nat) : Int) := by omega
    have HX := Lib.hid hx; clear hx e
    go_enter Try.func47, Try.ntmps47
    go_wp2
    go_ret
    exact ⟨by rw [HX.out]; rfl, rfl⟩
/-- n times a. -/
def nm : Nat → F → F
  | 0, _ => 0
  | n + 1, a => nm n a + a
theorem nm_add (i j : Nat) (a : F) : nm (i + j) a = nm i a + nm j a := by
  induction j with
  | zero => show nm i a = nm i a + 0; grind
  | succ j ih => rw [← Nat.add_assoc]; show nm (i + j) a + a = nm i a + (nm j a + a); rw [ih]; grind
theorem nm_twice (i : Nat) (a : F) : nm i (a + a) = nm (2 * i) a := by
  induction i with
  | zero => rfl
  | succ i ih => rw [show 2 * (i + 1) = 2 * i + 1 + 1 by omega]; show nm i (a + a) + (a + a) = nm (2 * i) a + a + a; rw [ih]; grind
theorem nm_val (a : F) (n : Nat) : (nm n a).val = n * a.val % PP := by
  induction n with
  | zero => show (0 : Nat) = 0 * a.val % PP; rw [Nat.zero_mul]; rfl
  | succ n ih => show (nm n a + a).val = _; rw [Fin.val_add, ih, Nat.succ_mul, Nat.mod_add_mod]
theorem nm_mul (a b : F) : nm b.val a = a * b := by
  apply Fin.ext
  rw [nm_val, Fin.val_mul, Nat.mul_comm]
theorem nm_half (s a : F) (m : Nat) : (if m % 2 = 1 then s + a else s) + nm (m / 2) (a + a) = s + nm m a := by
  rw [nm_twice]
  rcases Nat.mod_two_eq_zero_or_one m with e | e
  · rw [if_neg (by omega), show 2 * (m / 2) = m by omega]
  · rw [if_pos e]
    have q : nm m a = nm (2 * (m / 2) + 1) a := by congr 1; omega
    rw [q]; show s + a + nm (2 * (m / 2)) a = s + (nm (2 * (m / 2)) a + a); grind
set_option maxHeartbeats 1000000 in
theorem rmul_any (a b : F) (w : World) : Calls Try.prog 24 #[wd a, wd b] w fun e w' => e = .returned (wd (a * b)) ∧ w = w' := by
  have hb := F.lt b
  go_enter Try.func24, Try.ntmps24
  go_wp2
  go_loop [0, 1, 5] (fun x y z => ∃ (c s : F) (m : Nat), x = wd c ∧ y = wn m ∧ z = wd s ∧ RowKit.Hid (s + nm m c = a * b) ∧ m < 18446744073709551616) (fun _ y _ => (RowKit.intOf y).toNat)
  case atStart => exact ⟨_, 0, _, rfl, rfl, rfl, by show _ = _; rw [nm_mul]; grind, by omega⟩
  case round =>
    obtain ⟨c, s, m, rfl, rfl, rfl, hs, hm⟩ := hrel
    go_wp2_with (go_at_call 47; refine (radd_any _ _ _).mono ?_; rintro e w' ⟨rfl, rfl⟩)
    · go_round
      case rel =>
        refine ⟨_, _, m / 2, rfl, congrArg (Value.int IntKind.u64) (by omega), rfl, ?_, by omega⟩
        have e := nm_half s c m
        rw [if_pos (by have h : ((m : Int) % 2 == 1) = true := by assumption
                       have := eq_of_beq h; omega)] at e
        exact e.trans hs.out
      case measure => simp [RowKit.intOf]; omega
    · go_round
      case rel =>
        refine ⟨_, _, m / 2, rfl, congrArg (Value.int IntKind.u64) (by omega), rfl, ?_, by omega⟩
        have e := nm_half s c m
        rw [if_neg (by have h : ((m : Int) % 2 == 1) = false := by assumption
                       have := ne_of_beq_false h; omega)] at e
        exact e.trans hs.out
      case measure => simp [RowKit.intOf]; omega
    · obtain rfl : m = 0 := by omega
      have e : s = a * b := by rw [← hs.out]; show s = s + 0; grind
      have E := Lib.hid e; clear e hs
      go_ret
      exact ⟨by rw [← E.out]; rfl, rfl⟩
set_option maxHeartbeats 1000000 in
theorem rpower_any (x : F) (n : Nat) (w : World) (hn : n < 18446744073709551616) : Calls Try.prog 50 #[wd x, wn n] w fun e w' => e = .returned (wd (pw x n)) ∧ w = w' := by
  go_enter Try.func50, Try.ntmps50
  go_wp2
  go_loop [0, 1, 5] (fun a b c => ∃ (y s : F) (m : Nat), a = wd y ∧ b = wn m ∧ c = wd s ∧ RowKit.Hid (s * pw y m = pw x n) ∧ m < 18446744073709551616) (fun _ b _ => (RowKit.intOf b).toNat)
  case atStart => exact ⟨_, 1, _, rfl, rfl, rfl, by show _ = _; grind, hn⟩
  case round =>
    obtain ⟨y, s, m, rfl, rfl, rfl, hs, hm⟩ := hrel
    go_wp2_with (go_at_call 24; refine (rmul_any _ _ _).mono ?_; rintro e w' ⟨rfl, rfl⟩)
    · go_round
      case rel =>
        refine ⟨_, _, m / 2, rfl, congrArg (Value.int IntKind.u64) (by omega), rfl, ?_, by omega⟩
        have e := pw_half s y m
        rw [if_pos (by have h : ((m : Int) % 2 == 1) = true := by assumption
                       have := eq_of_beq h; omega)] at e
        exact e.trans hs.out
      case measure => simp [RowKit.intOf]; omega
    · go_round
      case rel =>
        refine ⟨_, _, m / 2, rfl, congrArg (Value.int IntKind.u64) (by omega), rfl, ?_, by omega⟩
        have e := pw_half s y m
        rw [if_neg (by have h : ((m : Int) % 2 == 1) = false := by assumption
                       have := ne_of_beq_false h; omega)] at e
        exact e.trans hs.out
      case measure => simp [RowKit.intOf]; omega
    · obtain rfl : m = 0 := by omega
      have e : s = pw x n := by rw [← hs.out, pw_zero]; grind
      have E := Lib.hid e; clear e hs
      go_ret
      exact ⟨by rw [← E.out]; rfl, rfl⟩

end Go.Proofs.Ytjmhnmlmnlefaaa
