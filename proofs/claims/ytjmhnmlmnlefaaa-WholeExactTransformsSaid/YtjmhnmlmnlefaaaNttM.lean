/-
  Plain law: sums and powers modulo the prime, transforms and their inverses, folds.
-/
namespace Go.Proofs.Ytjmhnmlmnlefaaa

/-- The prime. -/
abbrev PP : Nat := 18446744069414584321
abbrev F := Fin PP
/-- The sum of the first n values. -/
def sm : Nat → (Nat → F) → F
  | 0, _ => 0
  | n + 1, f => sm n f + f n
theorem sm_zero (f : Nat → F) : sm 0 f = 0 := rfl
theorem sm_succ (n : Nat) (f : Nat → F) : sm (n + 1) f = sm n f + f n := rfl
theorem sm_congr {n : Nat} {f g : Nat → F} (h : ∀ i, i < n → f i = g i) : sm n f = sm n g := by
  induction n with
  | zero => rfl
  | succ n ih => rw [sm_succ, sm_succ, ih (fun i hi => h i (by omega)), h n (by omega)]
theorem sm_nought (n : Nat) : sm n (fun _ => 0) = 0 := by
  induction n with
  | zero => rfl
  | succ n ih => rw [sm_succ, ih]; grind
theorem sm_add (n : Nat) (f g : Nat → F) : sm n (fun i => f i + g i) = sm n f + sm n g := by
  induction n with
  | zero => simp only [sm_zero]; grind
  | succ n ih => simp only [sm_succ, ih]; grind
theorem sm_mul (n : Nat) (c : F) (f : Nat → F) : sm n (fun i => c * f i) = c * sm n f := by
  induction n with
  | zero => simp only [sm_zero]; grind
  | succ n ih => simp only [sm_succ, ih]; grind
theorem sm_mulr (n : Nat) (c : F) (f : Nat → F) : sm n (fun i => f i * c) = sm n f * c := by
  induction n with
  | zero => simp only [sm_zero]; grind
  | succ n ih => simp only [sm_succ, ih]; grind
theorem sm_swap (n m : Nat) (f : Nat → Nat → F) : sm n (fun i => sm m (fun j => f i j)) = sm m (fun j => sm n (fun i => f i j)) := by
  induction n with
  | zero => simp only [sm_zero, sm_nought]
  | succ n ih => simp only [sm_succ, ih, sm_add]
theorem sm_front (n : Nat) (f : Nat → F) : sm (n + 1) f = f 0 + sm n (fun i => f (i + 1)) := by
  induction n with
  | zero => simp only [sm_succ, sm_zero]; grind
  | succ n ih => rw [sm_succ, ih, sm_succ]; grind
theorem sm_cut (a b : Nat) (f : Nat → F) : sm (a + b) f = sm a f + sm b (fun i => f (a + i)) := by
  induction b with
  | zero => simp only [Nat.add_zero, sm_zero]; grind
  | succ b ih => rw [← Nat.add_assoc, sm_succ, ih, sm_succ]; grind
/-- One place alone counts. -/
theorem sm_lone {n k : Nat} (hk : k < n) (f : Nat → F) (h : ∀ i, i < n → i ≠ k → f i = 0) : sm n f = f k := by
  induction n with
  | zero => omega
  | succ n ih =>
    rw [sm_succ]
    by_cases e : k = n
    · subst e
      rw [sm_congr (g := fun _ => 0) (fun i hi => h i (by omega) (by omega)), sm_nought]; grind
    · rw [ih (by omega) (fun i hi => h i (by omega)), h n (by omega) (by omega)]; grind
/-- Even places and odd ones. -/
theorem sm_halves (n : Nat) (f : Nat → F) : sm (2 * n) f = sm n (fun i => f (2 * i)) + sm n (fun i => f (2 * i + 1)) := by
  induction n with
  | zero => simp only [Nat.mul_zero, sm_zero]; grind
  | succ n ih => rw [show 2 * (n + 1) = 2 * n + 1 + 1 by omega, sm_succ, sm_succ, ih, sm_succ, sm_succ]; grind
/-- Round the cell. -/
theorem sm_round {n : Nat} (a : Nat) (ha : a ≤ n) (f : Nat → F) (h : ∀ i, f (i + n) = f i) : sm n (fun i => f (i + a)) = sm n f := by
  obtain ⟨b, rfl⟩ : ∃ b, n = a + b := ⟨n - a, by omega⟩
  rw [show a + b = b + a by omega, sm_cut b a, show b + a = a + b by omega, sm_cut a b]
  have e1 : sm b (fun i => f (i + a)) = sm b (fun i => f (a + i)) := sm_congr fun i _ => by rw [Nat.add_comm]
  have e2 : sm a (fun i => f (b + i + a)) = sm a f := sm_congr fun i _ => by rw [show b + i + a = i + (a + b) by omega, h]
  rw [e1, e2]; grind
theorem sm_roundm {n : Nat} (hn : 0 < n) (a : Nat) (f : Nat → F) : sm n (fun i => f ((i + a) % n)) = sm n f := by
  have e : sm n (fun i => f ((i + a) % n)) = sm n (fun i => f ((i + a % n) % n)) := sm_congr fun i _ => by rw [Nat.add_mod_mod]
  rw [e, sm_round (a % n) (Nat.le_of_lt (Nat.mod_lt _ hn)) (fun i => f (i % n)) (fun i => by rw [Nat.add_mod_right])]
  exact sm_congr fun i hi => by rw [Nat.mod_eq_of_lt hi]

/-- x to the power n. -/
def pw (x : F) : Nat → F
  | 0 => 1
  | n + 1 => pw x n * x
theorem pw_zero (x : F) : pw x 0 = 1 := rfl
theorem pw_succ (x : F) (n : Nat) : pw x (n + 1) = pw x n * x := rfl
theorem pw_one (x : F) : pw x 1 = x := by rw [pw_succ, pw_zero]; grind
theorem pw_ones (n : Nat) : pw 1 n = 1 := by
  induction n with
  | zero => rfl
  | succ n ih => rw [pw_succ, ih]; grind
theorem pw_add (x : F) (a b : Nat) : pw x (a + b) = pw x a * pw x b := by
  induction b with
  | zero => rw [Nat.add_zero, pw_zero]; grind
  | succ b ih => rw [← Nat.add_assoc, pw_succ, ih, pw_succ]; grind
theorem pw_mul (x : F) (a b : Nat) : pw x (a * b) = pw (pw x a) b := by
  induction b with
  | zero => rw [Nat.mul_zero, pw_zero, pw_zero]
  | succ b ih => rw [Nat.mul_succ, pw_add, ih, pw_succ]
theorem pw_prod (x y : F) (n : Nat) : pw (x * y) n = pw x n * pw y n := by
  induction n with
  | zero => simp only [pw_zero]; grind
  | succ n ih => simp only [pw_succ, ih]; grind
theorem pw_mod {w : F} {n : Nat} (h : pw w n = 1) (a : Nat) : pw w (a % n) = pw w a := by
  have e : pw w a = pw w (n * (a / n) + a % n) := by rw [Nat.div_add_mod]
  rw [e, pw_add, pw_mul, h, pw_ones]; grind
theorem geo (z : F) (n : Nat) : (z - 1) * sm n (pw z) = pw z n - 1 := by
  induction n with
  | zero => rw [sm_zero, pw_zero]; grind
  | succ n ih => rw [sm_succ, pw_succ]; grind
/-- w is a root of just the order n, v its inverse. -/
structure Rt (n : Nat) (w v : F) : Prop where
  pos : 0 < n
  inv : w * v = 1
  one : pw w n = 1
  unit : ∀ d, 0 < d → d < n → ∃ u, u * (pw w d - 1) = 1
theorem pw_inv {w v : F} (h : w * v = 1) (d : Nat) : pw w d * pw v d = 1 := by rw [← pw_prod, h, pw_ones]
theorem Rt.one' {n : Nat} {w v : F} (h : Rt n w v) : pw v n = 1 := by
  have a := pw_inv h.inv n; rw [h.one] at a; grind
theorem Rt.symm {n : Nat} {w v : F} (h : Rt n w v) : Rt n v w := by
  refine ⟨h.pos, by rw [Fin.mul_comm]; exact h.inv, h.one', fun d h0 hd => ?_⟩
  obtain ⟨u, hu⟩ := h.unit d h0 hd
  have a := pw_inv h.inv d
  exact ⟨-(u * pw w d), by grind⟩
/-- The number n, modulo the prime. -/
def nF : Nat → F
  | 0 => 0
  | n + 1 => nF n + 1
theorem sm_ones (n : Nat) : sm n (fun _ => 1) = nF n := by
  induction n with
  | zero => rfl
  | succ n ih => rw [sm_succ, ih]; rfl
theorem geo_unit {n : Nat} {z : F} (h1 : pw z n = 1) (hu : ∃ u, u * (z - 1) = 1) : sm n (pw z) = 0 := by
  obtain ⟨u, hu⟩ := hu
  have a := geo z n
  rw [h1] at a
  grind
/-- Sums of the powers of a root. -/
theorem Rt.ortho {n : Nat} {w v : F} (h : Rt n w v) {k i : Nat} (hk : k < n) (hi : i < n) : sm n (pw (pw w k * pw v i)) = if k = i then nF n else 0 := by
  split
  · rename_i e; subst e
    rw [pw_inv h.inv, sm_congr (g := fun _ => 1) (fun j _ => pw_ones j), sm_ones]
  · rename_i e
    apply geo_unit
    · rw [pw_prod, ← pw_mul, ← pw_mul, Nat.mul_comm k, Nat.mul_comm i, pw_mul, pw_mul, h.one, h.one', pw_ones, pw_ones]; grind
    · rcases Nat.lt_or_ge i k with q | q
      · obtain ⟨u, hu⟩ := h.unit (k - i) (by omega) (by omega)
        have e1 : pw w k = pw w (k - i) * pw w i := by rw [← pw_add]; congr 1; omega
        have e2 := pw_inv h.inv i
        exact ⟨u, by rw [e1]; grind⟩
      · obtain ⟨u, hu⟩ := h.symm.unit (i - k) (by omega) (by omega)
        have e1 : pw v i = pw v (i - k) * pw v k := by rw [← pw_add]; congr 1; omega
        have e2 := pw_inv h.inv k
        exact ⟨u, by rw [e1]; grind⟩
/-- The transform of n values by the powers of w. -/
def dft (n : Nat) (w : F) (x : Nat → F) (j : Nat) : F := sm n (fun k => x k * pw w (j * k))
theorem dft_congr {n : Nat} {w : F} {x y : Nat → F} (h : ∀ i, i < n → x i = y i) (j : Nat) : dft n w x j = dft n w y j := sm_congr fun i hi => by rw [h i hi]
/-- There and back. -/
theorem Rt.back {n : Nat} {w v : F} (h : Rt n w v) (x : Nat → F) {i : Nat} (hi : i < n) : dft n v (dft n w x) i = nF n * x i := by
  unfold dft
  have e : sm n (fun k => sm n (fun j => x j * pw w (k * j)) * pw v (i * k)) = sm n (fun j => x j * sm n (pw (pw w j * pw v i))) := by
    have e1 : ∀ k, sm n (fun j => x j * pw w (k * j)) * pw v (i * k) = sm n (fun j => x j * pw (pw w j * pw v i) k) := fun k => by
      rw [← sm_mulr]
      refine sm_congr fun j _ => ?_
      rw [pw_prod, ← pw_mul, ← pw_mul, Nat.mul_comm k j]; grind
    rw [sm_congr (fun k _ => e1 k), sm_swap]
    exact sm_congr fun j _ => sm_mul _ _ _
  rw [e, sm_lone hi]
  · rw [h.ortho hi hi, if_pos rfl, Fin.mul_comm]
  · intro j hj hne
    rw [h.ortho hj hi, if_neg hne]; grind
/-- The sums of products round the cell. -/
def fold (n : Nat) (x y : Nat → F) (i : Nat) : F := sm n (fun a => x a * y ((i + (n - a)) % n))
theorem dft_fold {n : Nat} {w : F} (hn : 0 < n) (h : pw w n = 1) (x y : Nat → F) (j : Nat) : dft n w (fold n x y) j = dft n w x j * dft n w y j := by
  have hp : ∀ a, pw w (j * (a % n)) = pw w (j * a) := fun a => by
    have e : pw (pw w j) n = 1 := by rw [← pw_mul, Nat.mul_comm, pw_mul, h, pw_ones]
    rw [pw_mul, pw_mul, pw_mod e]
  have e0 : dft n w (fold n x y) j = sm n (fun a => x a * pw w (j * a) * dft n w y j) := by
    unfold dft fold
    rw [sm_congr (g := fun k => sm n (fun a => x a * y ((k + (n - a)) % n) * pw w (j * k))) (fun k _ => (sm_mulr _ _ _).symm), sm_swap]
    refine sm_congr fun a ha => ?_
    have e1 : sm n (fun k => x a * y ((k + (n - a)) % n) * pw w (j * k)) = x a * sm n (fun k => y ((k + (n - a)) % n) * pw w (j * k)) := by
      rw [← sm_mul]; exact sm_congr fun k _ => by grind
    have e2 : sm n (fun k => y ((k + (n - a)) % n) * pw w (j * k)) = sm n (fun b => y b * pw w (j * (b + a))) := by
      have e3 := sm_roundm hn (n - a) (fun b => y b * pw w (j * (b + a)))
      rw [← e3]
      refine sm_congr fun k hk => ?_
      show _ = y ((k + (n - a)) % n) * pw w (j * ((k + (n - a)) % n + a))
      have e4 : pw w (j * ((k + (n - a)) % n + a)) = pw w (j * k) := by
        rw [← hp ((k + (n - a)) % n + a), Nat.mod_add_mod, show k + (n - a) + a = k + n by omega, Nat.add_mod_right, hp]
      rw [e4]
    rw [e1, e2]
    have e5 : sm n (fun b => y b * pw w (j * (b + a))) = sm n (fun b => y b * pw w (j * b)) * pw w (j * a) := by
      rw [← sm_mulr]; exact sm_congr fun b _ => by rw [Nat.mul_add, pw_add]; grind
    rw [e5]; grind
  rw [e0, sm_mulr]; rfl
/-- Back from the products: the fold. -/
theorem Rt.folds {n : Nat} {w v : F} (h : Rt n w v) (x y : Nat → F) {i : Nat} (hi : i < n) : dft n v (fun j => dft n w x j * dft n w y j) i = nF n * fold n x y i := by
  rw [← h.back (fold n x y) hi]
  exact dft_congr (fun j _ => (dft_fold h.pos h.one x y j).symm) i
/-- The even places, the odd ones: the first half of the transform, and the second. -/
theorem dft_even {h : Nat} (w : F) (x : Nat → F) (j : Nat) : dft (2 * h) w x j = dft h (w * w) (fun i => x (2 * i)) j + pw w j * dft h (w * w) (fun i => x (2 * i + 1)) j := by
  unfold dft
  rw [sm_halves, ← sm_mul]
  have e : ∀ k, pw (w * w) (j * k) = pw w (j * (2 * k)) := fun k => by rw [show w * w = pw w 2 by rw [pw_succ, pw_one], ← pw_mul]; congr 1; rw [Nat.mul_left_comm]
  congr 1
  · exact sm_congr fun i _ => by rw [e]
  · refine sm_congr fun i _ => ?_
    rw [e, Nat.mul_add, Nat.mul_one, pw_add]; grind
theorem dft_odd {h : Nat} {w : F} (hw : pw w h = -1) (x : Nat → F) (j : Nat) : dft (2 * h) w x (j + h) = dft h (w * w) (fun i => x (2 * i)) j - pw w j * dft h (w * w) (fun i => x (2 * i + 1)) j := by
  have e2 : w * w = pw w 2 := by rw [pw_succ, pw_one]
  have e1 : pw (w * w) h = 1 := by rw [e2, ← pw_mul, Nat.mul_comm, pw_mul, hw, pw_succ, pw_one]; grind
  have e3 : ∀ y, dft h (w * w) y (j + h) = dft h (w * w) y j := fun y => sm_congr fun k _ => by
    rw [Nat.add_mul, pw_add, pw_mul _ h, e1, pw_ones]; grind
  rw [dft_even, e3, e3, pw_add, hw]; grind
end Go.Proofs.Ytjmhnmlmnlefaaa
