/-
  Plain law: the roots that are used, their orders and inverses; powers by squaring.
-/
import Derived.Test.YtjmhnmlmnlefaaaNttM
namespace Go.Proofs.Ytjmhnmlmnlefaaa

/-- x to the power n times r, by squaring. -/
def pf : Nat → F → Nat → F → F
  | 0, _, _, r => r
  | k + 1, x, n, r => if n = 0 then r else pf k (x * x) (n / 2) (if n % 2 = 1 then r * x else r)
theorem pf_eq (k : Nat) (x : F) (n : Nat) (r : F) (h : n < 2 ^ k) : pf k x n r = r * pw x n := by
  induction k generalizing x n r with
  | zero =>
    have : n = 0 := by simpa using h
    subst this
    rw [pf, pw_zero]; grind
  | succ k ih =>
    rw [pf]
    split
    · rename_i e; subst e; rw [pw_zero]; grind
    · rw [ih _ _ _ (by rw [Nat.pow_succ] at h; omega), show x * x = pw x 2 by rw [pw_succ, pw_one], ← pw_mul]
      rcases Nat.mod_two_eq_zero_or_one n with e | e
      · rw [if_neg (by omega), show 2 * (n / 2) = n by omega]
      · rw [if_pos e]
        have q : pw x n = pw x (2 * (n / 2) + 1) := by congr 1; omega
        rw [q, pw_succ]; grind
theorem pw_pf (x : F) (n : Nat) (h : n < 2 ^ 64) : pw x n = pf 64 x n 1 := by rw [pf_eq 64 x n 1 h]; grind
/-- 7 to the power (p - 1) / n. -/
def rt (n : Nat) : F := pw 7 ((PP - 1) / n)
/-- Its inverse. -/
def rv (n : Nat) : F := pw (rt n) (PP - 2)
def lens : List Nat := [1, 2, 3, 4, 6, 8, 12, 16, 24, 32, 48, 64, 96, 192]
theorem g_pf : rt 192 = pf 64 7 ((PP - 1) / 192) 1 := pw_pf _ _ (by decide)
theorem g_val : (rt 192).val = (pf 64 7 ((PP - 1) / 192) 1).val := by rw [g_pf]
theorem rt_div {n : Nat} (hn : 0 < n) (h : 192 % n = 0) : rt n = pw (rt 192) (192 / n) := by
  unfold rt
  rw [← pw_mul]
  congr 1
  have e : 192 = n * (192 / n) := by have := Nat.div_add_mod 192 n; omega
  have e2 : PP - 1 = (PP - 1) / 192 * 192 := by decide
  generalize 192 / n = m at e ⊢
  generalize (PP - 1) / 192 = q at e2 ⊢
  rw [e2, show q * 192 = q * m * n by rw [e, Nat.mul_assoc, Nat.mul_comm m n], Nat.mul_div_cancel _ hn]
theorem pw_p1 : pw 7 (PP - 1) = 1 := by rw [pw_pf _ _ (by decide)]; decide +kernel
theorem rt_one {n : Nat} (hn : 0 < n) (h : 192 % n = 0) : pw (rt n) n = 1 := by
  rw [rt_div hn h, ← pw_mul]
  have e : 192 / n * n = 192 := by have := Nat.div_add_mod 192 n; rw [Nat.mul_comm]; omega
  rw [e]
  show pw (pw 7 ((PP - 1) / 192)) 192 = 1
  rw [← pw_mul, show (PP - 1) / 192 * 192 = PP - 1 by decide, pw_p1]
/-- The greatest root's value. -/
def gN : Nat := (pf 64 7 ((PP - 1) / 192) 1).val
def gF : F := pf 64 7 ((PP - 1) / 192) 1
/-- All powers of the greatest root but the first are unlike 1: each of them less 1 has an inverse. -/
def units : Nat → F → Bool
  | 0, _ => true
  | k + 1, p => decide (pf 64 (p - 1) (PP - 2) 1 * (p - 1) = 1) && units k (p * gF)
theorem units_all : units 191 gF = true := by decide +kernel
theorem units_at (k : Nat) (p : F) (h : units k p = true) (i : Nat) (hi : i < k) : ∃ u, u * (p * pw gF i - 1) = 1 := by
  induction k generalizing p i with
  | zero => omega
  | succ k ih =>
    rw [units, Bool.and_eq_true] at h
    cases i with
    | zero => exact ⟨_, by rw [pw_zero]; have := of_decide_eq_true h.1; rw [show p * 1 - 1 = p - 1 by grind]; exact this⟩
    | succ i =>
      obtain ⟨u, hu⟩ := ih (p * gF) h.2 i (by omega)
      exact ⟨u, by rw [pw_succ]; rw [show p * (pw gF i * gF) = p * gF * pw gF i by grind]; exact hu⟩
theorem rt_unit {n : Nat} (hn : 0 < n) (h : 192 % n = 0) (d : Nat) (h0 : 0 < d) (hd : d < n) : ∃ u, u * (pw (rt n) d - 1) = 1 := by
  rw [rt_div hn h, ← pw_mul, g_pf]
  have e : n * (192 / n) = 192 := by have := Nat.div_add_mod 192 n; omega
  have e0 : 0 < 192 / n := Nat.pos_of_ne_zero (fun q => by rw [q] at e; omega)
  have e1 : 192 / n * d < 192 := by
    rw [Nat.mul_comm]
    calc d * (192 / n) < n * (192 / n) := Nat.mul_lt_mul_of_pos_right hd e0
      _ = 192 := e
  have e2 : 0 < 192 / n * d := Nat.mul_pos e0 h0
  obtain ⟨u, hu⟩ := units_at 191 gF units_all (192 / n * d - 1) (by omega)
  refine ⟨u, ?_⟩
  have e3 : pw gF (192 / n * d) = gF * pw gF (192 / n * d - 1) := by
    have : pw gF (192 / n * d) = pw gF (192 / n * d - 1 + 1) := by congr 1; omega
    rw [this, pw_succ, Fin.mul_comm]
  show u * (pw gF (192 / n * d) - 1) = 1
  rw [e3]; exact hu
theorem rt_inv {n : Nat} (hn : 0 < n) (h : 192 % n = 0) : rt n * rv n = 1 := by
  have e : rt n * rv n = pw (rt n) (PP - 1) := by
    unfold rv
    rw [show PP - 1 = PP - 2 + 1 by decide, pw_succ, Fin.mul_comm]
  have e2 : PP - 1 = n * ((PP - 1) / 192 * (192 / n)) := by
    have e : n * (192 / n) = 192 := by have := Nat.div_add_mod 192 n; omega
    rw [Nat.mul_left_comm, e]; decide
  rw [e, e2, pw_mul, rt_one hn h, pw_ones]
theorem rt_root {n : Nat} (hn : 0 < n) (h : 192 % n = 0) : Rt n (rt n) (rv n) := ⟨hn, rt_inv hn h, rt_one hn h, rt_unit hn h⟩
/-- The power n - 1 is the inverse, too. -/
theorem rv_pow {n : Nat} (hn : 0 < n) (h : 192 % n = 0) : pw (rt n) (n - 1) = rv n := by
  have a := rt_one hn h
  have b := rt_inv hn h
  have e : pw (rt n) (n - 1 + 1) = pw (rt n) (n - 1) * rt n := pw_succ _ _
  rw [show n - 1 + 1 = n by omega] at e
  rw [e] at a
  grind
theorem rt_half {n : Nat} (hn : 0 < n) (h : 192 % n = 0) (h2 : n % 2 = 0) : pw (rt n) (n / 2) = -1 := by
  rw [rt_div hn h, ← pw_mul, g_pf]
  have e : n * (192 / n) = 192 := by have := Nat.div_add_mod 192 n; omega
  have e1 : 192 / n * (n / 2) = 96 := by
    have q : n = 2 * (n / 2) := by omega
    generalize n / 2 = c at q ⊢
    generalize 192 / n = d at e ⊢
    rw [q, Nat.mul_assoc, Nat.mul_comm c d] at e; omega
  rw [e1, pw_pf _ _ (by decide)]
  decide +kernel
theorem nF_val (n : Nat) (h : n < PP) : (nF n).val = n := by
  induction n with
  | zero => rfl
  | succ n ih =>
    have e := ih (by omega)
    show (nF n + 1).val = n + 1
    rw [Fin.val_add, e]
    exact Nat.mod_eq_of_lt h
/-- Numbers of 1 to 192 have inverses. -/
def ninv : Nat → F → Bool
  | 0, _ => true
  | k + 1, p => decide (pf 64 p (PP - 2) 1 * p = 1) && ninv k (p + 1)
theorem ninv_all : ninv 192 1 = true := by decide +kernel
theorem ninv_at (k : Nat) (p : F) (h : ninv k p = true) (i : Nat) (hi : i < k) : pf 64 (p + nF i) (PP - 2) 1 * (p + nF i) = 1 := by
  induction k generalizing p i with
  | zero => omega
  | succ k ih =>
    rw [ninv, Bool.and_eq_true] at h
    cases i with
    | zero => have := of_decide_eq_true h.1; rw [show p + nF 0 = p by show p + 0 = p; grind]; exact this
    | succ i =>
      have := ih (p + 1) h.2 i (by omega)
      rw [show p + nF (i + 1) = p + 1 + nF i by show p + (nF i + 1) = _; grind]; exact this
theorem n_inv {n : Nat} (hn : 0 < n) (h : n ≤ 192) : pw (nF n) (PP - 2) * nF n = 1 := by
  have e : nF n = 1 + nF (n - 1) := by
    have : nF n = nF (n - 1 + 1) := by congr 1; omega
    rw [this]; show nF (n - 1) + 1 = _; grind
  have := ninv_at 192 1 ninv_all (n - 1) (by omega)
  rw [← e, ← pw_pf _ _ (by decide)] at this
  exact this
theorem le_192 {n : Nat} (h : 192 % n = 0) : n ≤ 192 := Nat.le_of_dvd (by decide) (Nat.dvd_of_mod_eq_zero h)
end Go.Proofs.Ytjmhnmlmnlefaaa
