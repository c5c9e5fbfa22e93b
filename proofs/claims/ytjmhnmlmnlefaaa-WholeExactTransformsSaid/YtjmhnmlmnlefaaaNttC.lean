/-
  Words modulo the prime: products, sums.
-/
import Derived.Test.YtjmhnmlmnlefaaaNttB
import Derived.Laws.Externs
namespace Go.Proofs.Ytjmhnmlmnlefaaa
open Go.RowKit Go.Lib
attribute [local irreducible] World.setCell
set_option linter.unusedSimpArgs false
set_option linter.unusedVariables false


theorem F.lt (a : F) : a.val < 18446744069414584321 := a.isLt
set_option maxHeartbeats 1000000 in
set_option maxRecDepth 100000 in
theorem div64_0 (lo y : Int) (w : World) (l0 : 0 ≤ lo) (h2 : lo < 18446744073709551616) (hy : y = 18446744069414584321) :
    Calls Try.prog 64 #[.int .u64 0, .int .u64 lo, .int .u64 y] w fun e w' => (∃ q : Int, e = .returned (.tuple #[.int .u64 q, .int .u64 (lo % 18446744069414584321)])) ∧ ∃ n, w' = w.drewN n := by
  have hyl : 0 < y := by omega
  have hne : ¬ y = 0 := by omega
  have HY := Lib.hid hy; clear hy
  go_enter Try.func64, Try.ntmps64
  go_wp2
  go_quiet (fail)
  go_wp2
  go_ret2
  exact ⟨⟨_, by rw [HY.out]; rfl⟩, _, rfl⟩
theorem div64 (hi lo y : Int) (w : World) (h0 : 0 ≤ hi) (h1 : hi < 18446744069414584321) (l0 : 0 ≤ lo) (h2 : lo < 18446744073709551616) (hy : y = 18446744069414584321) :
    Calls Try.prog 64 #[.int .u64 hi, .int .u64 lo, .int .u64 y] w fun e w' => (∃ q : Int, e = .returned (.tuple #[.int .u64 q, .int .u64 ((hi * 18446744073709551616 + lo) % 18446744069414584321)])) ∧ ∃ n, w' = w.drewN n := by
  by_cases h : hi = 0
  · subst h
    refine (div64_0 lo y w l0 h2 hy).mono fun e w' q => ?_
    rw [show 0 * 18446744073709551616 + lo = lo by omega]; exact q
  · exact (div64_hi hi lo y w (by omega) h1 l0 h2 hy).mono fun e w' ⟨q, k⟩ => ⟨q, 0, k.symm⟩
theorem hi_mod (hi y : Int) (hy : y = 18446744069414584321) (h0 : 0 ≤ hi) : 0 ≤ hi % y ∧ hi % y < 18446744069414584321 := by subst hy; omega
theorem hi_rem (hi lo y : Int) (hy : y = 18446744069414584321) : (hi % y * 18446744073709551616 + lo) % 18446744069414584321 = (hi * 18446744073709551616 + lo) % 18446744069414584321 := by subst hy; omega
set_option maxHeartbeats 1000000 in
set_option maxRecDepth 100000 in
theorem rem64_y (hi lo y : Int) (w : World) (h0 : 0 ≤ hi) (h1 : hi < 18446744073709551616) (l0 : 0 ≤ lo) (h2 : lo < 18446744073709551616) (hy : y = 18446744069414584321) :
    Calls Try.prog 60 #[.int .u64 hi, .int .u64 lo, .int .u64 y] w fun e w' => e = .returned (.int .u64 ((hi * 18446744073709551616 + lo) % 18446744069414584321)) ∧ ∃ n, w' = w.drewN n := by
  have hyl : 0 < y := by omega
  have hne : ¬ y = 0 := by omega
  have HY := Lib.hid hy; clear hy
  go_enter Try.func60, Try.ntmps60
  go_wp2_with fail
  refine (div64 _ _ _ _ (hi_mod hi y HY.out h0).1 (hi_mod hi y HY.out h0).2 l0 h2 HY.out).mono ?_
  rintro e w' ⟨⟨q, rfl⟩, n, rfl⟩
  rw [hi_rem hi lo y HY.out]
  go_wp2
  go_ret
  exact ⟨rfl, _, rfl⟩
theorem rem64 (hi lo : Int) (w : World) (h0 : 0 ≤ hi) (h1 : hi < 18446744073709551616) (l0 : 0 ≤ lo) (h2 : lo < 18446744073709551616) :
    Calls Try.prog 60 #[.int .u64 hi, .int .u64 lo, .int .u64 18446744069414584321] w fun e w' => e = .returned (.int .u64 ((hi * 18446744073709551616 + lo) % 18446744069414584321)) ∧ ∃ n, w' = w.drewN n := rem64_y hi lo _ w h0 h1 l0 h2 rfl
theorem mul_val (a b : F) : (((a.val * b.val / 18446744073709551616 : Nat) : Int) * 18446744073709551616 + ((a.val * b.val % 18446744073709551616 : Nat) : Int)) % 18446744069414584321 = (((a * b : F).val : Nat) : Int) := by
  rw [Fin.val_mul]
  generalize a.val * b.val = x
  show _ = ((x % 18446744069414584321 : Nat) : Int)
  omega
theorem mul_any (a b : F) (w : World) : Calls Try.prog 39 #[wd a, wd b] w fun e w' => e = .returned (wd (a * b)) ∧ ∃ n, w' = w.drewN n := by
  have ha := F.lt a
  have hb := F.lt b
  have hp : a.val * b.val / 18446744073709551616 < 18446744073709551616 := Nat.div_lt_of_lt_mul (Nat.mul_lt_mul'' (by omega) (by omega))
  have hq : a.val * b.val % 18446744073709551616 < 18446744073709551616 := Nat.mod_lt _ (by omega)
  have hp' : ((a.val * b.val / 18446744073709551616 : Nat) : Int) < 18446744073709551616 := by omega
  have hq' : ((a.val * b.val % 18446744073709551616 : Nat) : Int) < 18446744073709551616 := by omega
  have HM := Lib.hid (mul_val a b)
  obtain ⟨p, ep⟩ : ∃ p : Nat, p = a.val * b.val / 18446744073709551616 := ⟨_, rfl⟩
  obtain ⟨q, eq⟩ : ∃ q : Nat, q = a.val * b.val % 18446744073709551616 := ⟨_, rfl⟩
  rw [← ep, ← eq] at HM
  rw [← ep] at hp'
  rw [← eq] at hq'
  have hm := fun w => mul64 a.val b.val (by omega) (by omega) w
  rw [← ep, ← eq] at hm
  have HC := Lib.hid hm; clear hm ep eq hp hq ha hb
  go_enter Try.func39, Try.ntmps39
  go_wp2_with fail
  refine (HC.out _).mono ?_
  rintro e w' ⟨rfl, rfl⟩
  go_wp2_with fail
  refine (rem64 _ _ _ (by omega) hp' (by omega) hq').mono ?_
  rintro e w' ⟨rfl, n, rfl⟩
  rw [HM.out]
  go_wp2
  go_ret
  exact ⟨rfl, _, rfl⟩
theorem add64_run (x y : Nat) (w : World) : (callFunc 65 #[.int .u64 x, .int .u64 y, .int .u64 0]).run Try.prog w = .ok (.value (.tuple #[.int .u64 (((x + y) % 18446744073709551616 : Nat) : Int), .int .u64 (((x + y) / 18446744073709551616 : Nat) : Int)])) w := by
  rw [run_callFunc_extern Try.func65 (by kernel_rfl) (by kernel_rfl) (by kernel_rfl) (e := add64Entry) (by kernel_rfl), run_add64 x y 0 (by omega) (by omega) (by omega) (by omega)]
  simp only [Result.andThen]
  congr 5 <;> omega
theorem add_v1 (a b : F) (h : a.val + b.val < 18446744069414584321) : (a + b : F).val = a.val + b.val := by rw [Fin.val_add]; exact Nat.mod_eq_of_lt h
theorem add_v2 (a b : F) (h : 18446744069414584321 ≤ a.val + b.val) : (a + b : F).val = a.val + b.val - 18446744069414584321 := by
  have := F.lt a; have := F.lt b
  rw [Fin.val_add]
  show (a.val + b.val) % 18446744069414584321 = _
  omega
theorem sub_v1 (a b : F) (h : b.val ≤ a.val) : (a - b : F).val = a.val - b.val := by
  have := F.lt a
  show (18446744069414584321 - b.val + a.val) % 18446744069414584321 = _
  omega
theorem sub_v2 (a b : F) (h : a.val < b.val) : (a - b : F).val = a.val + 18446744069414584321 - b.val := by
  have := F.lt b
  show (18446744069414584321 - b.val + a.val) % 18446744069414584321 = _
  omega
theorem add_any (a b : F) (w : World) : Calls Try.prog 62 #[wd a, wd b] w fun e w' => e = .returned (wd (a + b)) ∧ ∃ n, w' = w.drewN n := by
  have ha := F.lt a
  have hb := F.lt b
  rcases (by omega : a.val + b.val < 18446744069414584321 ∨ (18446744069414584321 ≤ a.val + b.val ∧ a.val + b.val < 18446744073709551616) ∨ 18446744073709551616 ≤ a.val + b.val) with h | h | h
  · obtain ⟨x, ex⟩ : ∃ x : Nat, x = (a.val + b.val) % 18446744073709551616 := ⟨_, rfl⟩
    obtain ⟨c, ec⟩ : ∃ c : Nat, c = (a.val + b.val) / 18446744073709551616 := ⟨_, rfl⟩
    have hx : x = (a + b : F).val := by first | (have e := add_v1 a b h; omega) | (have e := add_v2 a b (by omega); omega)
    have hc : c = 0 := by omega
    have hr := fun w => add64_run a.val b.val w
    rw [← ex, ← ec] at hr
    subst hc
    have hl : ¬ (18446744069414584321 : Int) ≤ x := by omega
    have HX := Lib.hid hx
    clear hx ex ec ha hb h
    go_enter Try.func62, Try.ntmps62
    go_wp2
    go_ret
    exact ⟨by rw [HX.out]; rfl, 0, rfl⟩
  · obtain ⟨x, ex⟩ : ∃ x : Nat, x = (a.val + b.val) % 18446744073709551616 := ⟨_, rfl⟩
    obtain ⟨c, ec⟩ : ∃ c : Nat, c = (a.val + b.val) / 18446744073709551616 := ⟨_, rfl⟩
    have hx : IntKind.u64.wrap ((x : Int) - 18446744069414584321) = (((a + b : F).val : Nat) : Int) := by
      rw [IntKind.wrap_u64]
      first | (have e := add_v1 a b h; omega) | (have e := add_v2 a b (by omega); omega)
    have hc : c = 0 := by omega
    have hr := fun w => add64_run a.val b.val w
    rw [← ex, ← ec] at hr
    subst hc
    have hl : (18446744069414584321 : Int) ≤ x := by omega
    have HX := Lib.hid hx
    clear hx ex ec ha hb h
    go_enter Try.func62, Try.ntmps62
    go_wp2
    go_ret
    exact ⟨by rw [HX.out]; rfl, 0, rfl⟩
  · obtain ⟨x, ex⟩ : ∃ x : Nat, x = (a.val + b.val) % 18446744073709551616 := ⟨_, rfl⟩
    obtain ⟨c, ec⟩ : ∃ c : Nat, c = (a.val + b.val) / 18446744073709551616 := ⟨_, rfl⟩
    have hx : IntKind.u64.wrap ((x : Int) - 18446744069414584321) = (((a + b : F).val : Nat) : Int) := by
      rw [IntKind.wrap_u64]
      first | (have e := add_v1 a b h; omega) | (have e := add_v2 a b (by omega); omega)
    have hc : c = 1 := by omega
    have hr := fun w => add64_run a.val b.val w
    rw [← ex, ← ec] at hr
    subst hc
    have hl : ¬ (18446744069414584321 : Int) ≤ x := by omega
    have HX := Lib.hid hx
    clear hx ex ec ha hb h
    go_enter Try.func62, Try.ntmps62
    go_wp2
    go_ret
    exact ⟨by rw [HX.out]; rfl, 0, rfl⟩

theorem sub_any (a b : F) (w : World) : Calls Try.prog 63 #[wd a, wd b] w fun e w' => e = .returned (wd (a - b)) ∧ ∃ n, w' = w.drewN n := by
  have ha := F.lt a
  have hb := F.lt b
  rcases (by omega : b.val ≤ a.val ∨ a.val < b.val) with h | h
  · have e := sub_v1 a b h
    have hx : IntKind.u64.wrap ((a.val : Int) - (b.val : Int)) = (((a - b : F).val : Nat) : Int) := by rw [IntKind.wrap_u64]; omega
    have hx' : ((a.val : Int) - (b.val : Int)) = (((a - b : F).val : Nat) : Int) := by omega
    have HX := Lib.hid hx; have HX' := Lib.hid hx'; clear hx hx' e
    go_enter Try.func63, Try.ntmps63
    go_wp2
    go_ret
    exact ⟨by first | (rw [HX.out]; rfl) | (rw [HX'.out]; rfl), 0, rfl⟩
  · have e := sub_v2 a b h
    have hx : IntKind.u64.wrap (IntKind.u64.wrap ((a.val : Int) - (b.val : Int)) + 18446744069414584321) = (((a - b : F).val : Nat) : Int) := by simp only [IntKind.wrap_u64]; omega
    have HX := Lib.hid hx; clear hx e
    go_enter Try.func63, Try.ntmps63
    go_wp2
    go_ret
    exact ⟨by rw [HX.out]; rfl, 0, rfl⟩

end Go.Proofs.Ytjmhnmlmnlefaaa
