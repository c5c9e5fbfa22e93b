/-
  Plain law: what comes back from the products of two boxes' transforms is their fold.
-/
import Derived.Test.YtjmhnmlmnlefaaaNttN
namespace Go.Proofs.Ytjmhnmlmnlefaaa
set_option linter.unusedVariables false

/-- A box by its places. -/
def flat (n1 n2 : Nat) (A : Nat → Nat → Nat → F) (i : Nat) : F := A (i / n2 / n1) (i / n2 % n1) (i % n2)
def cub (n1 n2 : Nat) (X : Nat → F) (a b c : Nat) : F := X ((a * n1 + b) * n2 + c)
theorem cub_def {n1 n2 : Nat} (X : Nat → F) (a b c : Nat) : cub n1 n2 X a b c = X ((a * n1 + b) * n2 + c) := rfl
theorem flat_def {n1 n2 : Nat} (A : Nat → Nat → Nat → F) (i : Nat) : flat n1 n2 A i = A (i / n2 / n1) (i / n2 % n1) (i % n2) := rfl
theorem flat_cub {n1 n2 : Nat} (X : Nat → F) (i : Nat) : flat n1 n2 (cub n1 n2 X) i = X i := by
  unfold flat cub
  congr 1
  rw [Nat.mul_comm _ n1, Nat.div_add_mod, Nat.mul_comm _ n2, Nat.div_add_mod]
/-- A transform that looks at the first m values alone. -/
def TC (T : (Nat → F) → Nat → F) (m : Nat) : Prop := ∀ x y j, (∀ k, k < m → x k = y k) → T x j = T y j
theorem TC_dft (m : Nat) (w : F) : TC (dft m w) m := fun x y j h => dft_congr h j
theorem TC_idft (m : Nat) : TC (idft m) m := fun x y j h => by unfold idft; rw [dft_congr h]
theorem along_congr {T : (Nat → F) → Nat → F} {s m L Q : Nat} (hT : TC T m) (hs : 0 < s) (hL : L = Q * (m * s)) {X Y : Nat → F} (h : ∀ i, i < L → X i = Y i) {i : Nat} (hi : i < L) : alongF T s m X i = alongF T s m Y i :=
  hT _ _ _ fun k hk => h _ (at_lt hs hL co_bs (Nat.lt_of_le_of_lt bs_le hi) hk)
theorem along2 {T : (Nat → F) → Nat → F} {n1 n2 : Nat} (hT : TC T n2) (A : Nat → Nat → Nat → F) (i : Nat) : alongF T 1 n2 (flat n1 n2 A) i = flat n1 n2 (fun a b c => T (fun k => A a b k) c) i := by
  have hb : bs 1 n2 i = n2 * (i / n2) := by unfold bs; rw [Nat.div_one, Nat.mul_one]; have := Nat.div_add_mod i n2; omega
  have hc : co 1 n2 i = i % n2 := by unfold co; rw [Nat.div_one]
  unfold alongF
  rw [hb, hc]
  show _ = T (fun k => A (i / n2 / n1) (i / n2 % n1) k) (i % n2)
  apply hT
  intro k hk
  have hp : 0 < n2 := by omega
  unfold flat
  rw [Nat.mul_one, Nat.mul_add_div hp, Nat.mul_add_mod, Nat.div_eq_of_lt hk, Nat.mod_eq_of_lt hk, Nat.add_zero]
theorem along1 {T : (Nat → F) → Nat → F} {n1 n2 : Nat} (hT : TC T n1) (hp : 0 < n2) (A : Nat → Nat → Nat → F) (i : Nat) : alongF T n2 n1 (flat n1 n2 A) i = flat n1 n2 (fun a b c => T (fun k => A a k c) b) i := by
  unfold alongF
  show T (fun k => flat n1 n2 A (bs n2 n1 i + k * n2)) (i / n2 % n1) = T (fun k => A (i / n2 / n1) k (i % n2)) (i / n2 % n1)
  apply hT
  intro k hk
  have h1 : 0 < n1 := by omega
  have e1 : (bs n2 n1 i + k * n2) / n2 = n1 * (i / n2 / n1) + k := by
    rw [at_div hp, bs_div]
    have := Nat.div_add_mod (i / n2) n1
    omega
  have e2 : (bs n2 n1 i + k * n2) % n2 = i % n2 := by
    rw [Nat.add_mul_mod_self_right]
    have e := bs_add (s := n2) (m := n1) (i := i)
    have : (bs n2 n1 i + co n2 n1 i * n2) % n2 = i % n2 := by rw [e]
    rw [Nat.add_mul_mod_self_right] at this
    exact this
  unfold flat
  rw [e1, e2, Nat.mul_add_div h1, Nat.mul_add_mod, Nat.div_eq_of_lt hk, Nat.mod_eq_of_lt hk, Nat.add_zero]
theorem along0 {T : (Nat → F) → Nat → F} {n0 n1 n2 : Nat} (hT : TC T n0) (h1 : 0 < n1) (h2 : 0 < n2) (A : Nat → Nat → Nat → F) {i : Nat} (hi : i < n0 * n1 * n2) : alongF T (n1 * n2) n0 (flat n1 n2 A) i = flat n1 n2 (fun a b c => T (fun k => A k b c) a) i := by
  have hs : 0 < n1 * n2 := Nat.mul_pos h1 h2
  have hq : i / (n1 * n2) < n0 := Nat.div_lt_of_lt_mul (by rw [Nat.mul_comm, ← Nat.mul_assoc]; exact hi)
  have hdd : ∀ j, j / n2 / n1 = j / (n1 * n2) := fun j => by rw [Nat.div_div_eq_div_mul, Nat.mul_comm]
  have hc : co (n1 * n2) n0 i = i / n2 / n1 := by unfold co; rw [Nat.mod_eq_of_lt hq, hdd]
  have hb : bs (n1 * n2) n0 i = i % (n1 * n2) := by
    have e := bs_add (s := n1 * n2) (m := n0) (i := i)
    unfold co at e
    rw [Nat.mod_eq_of_lt hq] at e
    have := Nat.div_add_mod i (n1 * n2)
    rw [Nat.mul_comm] at this
    omega
  unfold alongF
  rw [hc, hb]
  show T _ (i / n2 / n1) = T (fun k => A k (i / n2 % n1) (i % n2)) (i / n2 / n1)
  apply hT
  intro k hk
  have hlt := Nat.mod_lt i hs
  have em : i % (n1 * n2) / n2 % n1 = i / n2 % n1 := by
    rw [Nat.mul_comm n1 n2, Nat.mod_mul_right_div_self, Nat.mod_mod]
  have ec : i % (n1 * n2) % n2 = i % n2 := Nat.mod_mul_left_mod i n1 n2
  have ek : (i % (n1 * n2) + k * (n1 * n2)) / n2 = i % (n1 * n2) / n2 + k * n1 := by
    rw [← Nat.mul_assoc, Nat.add_mul_div_right _ _ h2]
  have ek2 : (i % (n1 * n2) + k * (n1 * n2)) / n2 / n1 = k := by
    rw [hdd, Nat.add_mul_div_right _ _ hs, Nat.div_eq_of_lt hlt, Nat.zero_add]
  have ek3 : (i % (n1 * n2) + k * (n1 * n2)) % n2 = i % n2 := by
    rw [← Nat.mul_assoc, Nat.add_mul_mod_self_right, ec]
  unfold flat
  rw [ek2, ek3, ek, Nat.add_mul_mod_self_right, em]
/-- Transforms along different edges may change places. -/
theorem dft_swap (n m : Nat) (w v : F) (G : Nat → Nat → F) (a c : Nat) : dft m v (fun k => dft n w (fun p => G p k) a) c = dft n w (fun p => dft m v (fun k => G p k) c) a := by
  unfold dft
  have e1 : ∀ k, sm n (fun p => G p k * pw w (a * p)) * pw v (c * k) = sm n (fun p => G p k * pw w (a * p) * pw v (c * k)) := fun k => (sm_mulr _ _ _).symm
  have e2 : ∀ p, sm m (fun k => G p k * pw v (c * k)) * pw w (a * p) = sm m (fun k => G p k * pw v (c * k) * pw w (a * p)) := fun k => (sm_mulr _ _ _).symm
  rw [sm_congr (fun k _ => e1 k), sm_congr (fun k _ => e2 k), sm_swap]
  exact sm_congr fun p _ => sm_congr fun k _ => by grind
theorem idft_sum (n m : Nat) (G : Nat → Nat → F) (b : Nat) : idft n (fun j => sm m (fun p => G p j)) b = sm m (fun p => idft n (fun j => G p j) b) := by
  unfold idft dft
  rw [sm_mulr]
  congr 1
  have e1 : ∀ k, sm m (fun p => G p k) * pw (rv n) (b * k) = sm m (fun p => G p k * pw (rv n) (b * k)) := fun k => (sm_mulr _ _ _).symm
  rw [sm_congr (fun k _ => e1 k), sm_swap]
theorem idft_fold {n : Nat} (hn : 0 < n ∧ 192 % n = 0 ∧ n ≤ 192) (x y : Nat → F) {i : Nat} (hi : i < n) : idft n (fun j => dft n (rt n) x j * dft n (rt n) y j) i = fold n x y i := by
  unfold idft
  rw [(rt_root hn.1 hn.2.1).folds x y hi]
  have := n_inv hn.1 hn.2.2
  grind
theorem idft_dft {n : Nat} (hn : 0 < n ∧ 192 % n = 0 ∧ n ≤ 192) (x : Nat → F) {i : Nat} (hi : i < n) : idft n (dft n (rt n) x) i = x i := by
  unfold idft
  rw [(rt_root hn.1 hn.2.1).back x hi]
  have := n_inv hn.1 hn.2.2
  grind
theorem dft_idft {n : Nat} (hn : 0 < n ∧ 192 % n = 0 ∧ n ≤ 192) (x : Nat → F) {i : Nat} (hi : i < n) : dft n (rt n) (idft n x) i = x i := by
  have e : dft n (rt n) (idft n x) i = dft n (rt n) (dft n (rv n) x) i * pw (nF n) (PP - 2) := by
    unfold idft
    show sm n _ = sm n _ * _
    rw [← sm_mulr]
    exact sm_congr fun k _ => by grind
  rw [e, (rt_root hn.1 hn.2.1).symm.back x hi]
  have := n_inv hn.1 hn.2.2
  grind
/-- The fold of two boxes. -/
def fold3 (n0 n1 n2 : Nat) (A B : Nat → Nat → Nat → F) (a b c : Nat) : F := sm n0 fun p => sm n1 fun q => sm n2 fun r => A p q r * B ((a + (n0 - p)) % n0) ((b + (n1 - q)) % n1) ((c + (n2 - r)) % n2)
theorem box_fold {n0 n1 n2 : Nat} (h0 : 0 < n0 ∧ 192 % n0 = 0 ∧ n0 ≤ 192) (h1 : 0 < n1 ∧ 192 % n1 = 0 ∧ n1 ≤ 192) (h2 : 0 < n2 ∧ 192 % n2 = 0 ∧ n2 ≤ 192) (A B : Nat → Nat → Nat → F) {a b c : Nat} (ha : a < n0) (hb : b < n1) (hc : c < n2) :
    idft n2 (fun k2 => idft n1 (fun k1 => idft n0 (fun k0 =>
      dft n2 (rt n2) (fun r => dft n1 (rt n1) (fun q => dft n0 (rt n0) (fun p => A p q r) k0) k1) k2 * dft n2 (rt n2) (fun r => dft n1 (rt n1) (fun q => dft n0 (rt n0) (fun p => B p q r) k0) k1) k2) a) b) c = fold3 n0 n1 n2 A B a b c := by
  have sw : ∀ (C : Nat → Nat → Nat → F) k0 k1 k2, dft n2 (rt n2) (fun r => dft n1 (rt n1) (fun q => dft n0 (rt n0) (fun p => C p q r) k0) k1) k2 = dft n0 (rt n0) (fun p => dft n1 (rt n1) (fun q => dft n2 (rt n2) (fun r => C p q r) k2) k1) k0 := by
    intro C k0 k1 k2
    have e1 : ∀ r, dft n1 (rt n1) (fun q => dft n0 (rt n0) (fun p => C p q r) k0) k1 = dft n0 (rt n0) (fun p => dft n1 (rt n1) (fun q => C p q r) k1) k0 := fun r => dft_swap n0 n1 _ _ (fun p q => C p q r) k0 k1
    rw [dft_congr (fun r _ => e1 r), dft_swap n0 n2 _ _ (fun p r => dft n1 (rt n1) (fun q => C p q r) k1) k0 k2]
    exact dft_congr (fun p _ => dft_swap n1 n2 _ _ (fun q r => C p q r) k1 k2) k0
  have s0 : ∀ k1 k2, idft n0 (fun k0 => dft n2 (rt n2) (fun r => dft n1 (rt n1) (fun q => dft n0 (rt n0) (fun p => A p q r) k0) k1) k2 * dft n2 (rt n2) (fun r => dft n1 (rt n1) (fun q => dft n0 (rt n0) (fun p => B p q r) k0) k1) k2) a =
      sm n0 (fun p => dft n1 (rt n1) (fun q => dft n2 (rt n2) (fun r => A p q r) k2) k1 * dft n1 (rt n1) (fun q => dft n2 (rt n2) (fun r => B ((a + (n0 - p)) % n0) q r) k2) k1) := by
    intro k1 k2
    rw [TC_idft n0 _ (fun k0 => dft n0 (rt n0) (fun p => dft n1 (rt n1) (fun q => dft n2 (rt n2) (fun r => A p q r) k2) k1) k0 * dft n0 (rt n0) (fun p => dft n1 (rt n1) (fun q => dft n2 (rt n2) (fun r => B p q r) k2) k1) k0) a (fun k0 _ => by rw [sw A, sw B]), idft_fold h0 _ _ ha]
    rfl
  have s1 : ∀ k2, idft n1 (fun k1 => sm n0 (fun p => dft n1 (rt n1) (fun q => dft n2 (rt n2) (fun r => A p q r) k2) k1 * dft n1 (rt n1) (fun q => dft n2 (rt n2) (fun r => B ((a + (n0 - p)) % n0) q r) k2) k1)) b =
      sm n0 (fun p => sm n1 (fun q => dft n2 (rt n2) (fun r => A p q r) k2 * dft n2 (rt n2) (fun r => B ((a + (n0 - p)) % n0) ((b + (n1 - q)) % n1) r) k2)) := by
    intro k2
    rw [idft_sum]
    refine sm_congr fun p _ => ?_
    rw [idft_fold h1 _ _ hb]
    rfl
  rw [TC_idft n2 _ _ c (fun k2 _ => (TC_idft n1 _ _ b (fun k1 _ => s0 k1 k2)).trans (s1 k2)), idft_sum]
  refine sm_congr fun p _ => ?_
  rw [idft_sum]
  refine sm_congr fun q _ => ?_
  rw [idft_fold h2 _ _ hc]
  rfl
theorem fwd_flat {n0 n1 n2 L : Nat} (hB : Box n0 n1 n2 L) (X : Nat → F) {i : Nat} (hi : i < L) : fwd n0 n1 n2 X i = flat n1 n2 (fun a b c => dft n2 (rt n2) (fun r => dft n1 (rt n1) (fun q => dft n0 (rt n0) (fun p => cub n1 n2 X p q r) a) b) c) i := by
  obtain ⟨h0, h1, h2, hL, hb⟩ := hB
  have e0 : ∀ j, j < L → alongF (dft n0 (rt n0)) (n1 * n2) n0 X j = flat n1 n2 (fun a b c => dft n0 (rt n0) (fun p => cub n1 n2 X p b c) a) j := fun j hj => by
    rw [← along0 (TC_dft _ _) h1.1 h2.1 _ (by omega)]
    have : flat n1 n2 (cub n1 n2 X) = X := funext fun i => flat_cub X i
    rw [this]
  have e1 : ∀ j, j < L → alongF (dft n1 (rt n1)) n2 n1 (alongF (dft n0 (rt n0)) (n1 * n2) n0 X) j = flat n1 n2 (fun a b c => dft n1 (rt n1) (fun q => dft n0 (rt n0) (fun p => cub n1 n2 X p q c) a) b) j := fun j hj => by
    rw [along_congr (Q := n0) (TC_dft _ _) h2.1 (by rw [hL, Nat.mul_assoc]) e0 hj, along1 (TC_dft _ _) h2.1]
  unfold fwd
  rw [along_congr (Q := n0 * n1) (TC_dft _ _) Nat.one_pos (by rw [hL, Nat.mul_one]) e1 hi, along2 (TC_dft _ _)]
theorem bwd_flat {n0 n1 n2 L : Nat} (hB : Box n0 n1 n2 L) (X : Nat → F) {i : Nat} (hi : i < L) : bwd n0 n1 n2 X i = flat n1 n2 (fun a b c => idft n2 (fun r => idft n1 (fun q => idft n0 (fun p => cub n1 n2 X p q r) a) b) c) i := by
  obtain ⟨h0, h1, h2, hL, hb⟩ := hB
  have e0 : ∀ j, j < L → alongF (idft n0) (n1 * n2) n0 X j = flat n1 n2 (fun a b c => idft n0 (fun p => cub n1 n2 X p b c) a) j := fun j hj => by
    rw [← along0 (TC_idft _) h1.1 h2.1 _ (by omega)]
    have : flat n1 n2 (cub n1 n2 X) = X := funext fun i => flat_cub X i
    rw [this]
  have e1 : ∀ j, j < L → alongF (idft n1) n2 n1 (alongF (idft n0) (n1 * n2) n0 X) j = flat n1 n2 (fun a b c => idft n1 (fun q => idft n0 (fun p => cub n1 n2 X p q c) a) b) j := fun j hj => by
    rw [along_congr (Q := n0) (TC_idft _) h2.1 (by rw [hL, Nat.mul_assoc]) e0 hj, along1 (TC_idft _) h2.1]
  unfold bwd
  rw [along_congr (Q := n0 * n1) (TC_idft _) Nat.one_pos (by rw [hL, Nat.mul_one]) e1 hi, along2 (TC_idft _)]
theorem idx_lt {n0 n1 n2 p q r : Nat} (hp : p < n0) (hq : q < n1) (hr : r < n2) : (p * n1 + q) * n2 + r < n0 * n1 * n2 := by
  have h1 : p * n1 + q + 1 ≤ n0 * n1 := by
    have := Nat.mul_le_mul_right n1 (show p + 1 ≤ n0 from hp)
    rw [Nat.succ_mul] at this; omega
  have h2 := Nat.mul_le_mul_right n2 h1
  rw [Nat.succ_mul] at h2; omega
theorem flat_idx {n1 n2 p q r : Nat} (hq : q < n1) (hr : r < n2) (A : Nat → Nat → Nat → F) : flat n1 n2 A ((p * n1 + q) * n2 + r) = A p q r := by
  have e1 : ((p * n1 + q) * n2 + r) / n2 = p * n1 + q := by rw [Nat.mul_comm _ n2, Nat.mul_add_div (by omega), Nat.div_eq_of_lt hr, Nat.add_zero]
  have e2 : ((p * n1 + q) * n2 + r) % n2 = r := by rw [Nat.mul_comm _ n2, Nat.mul_add_mod, Nat.mod_eq_of_lt hr]
  have e3 : (p * n1 + q) / n1 = p := by rw [Nat.mul_comm _ n1, Nat.mul_add_div (by omega), Nat.div_eq_of_lt hq, Nat.add_zero]
  have e4 : (p * n1 + q) % n1 = q := by rw [Nat.mul_comm _ n1, Nat.mul_add_mod, Nat.mod_eq_of_lt hq]
  unfold flat
  rw [e1, e2, e3, e4]
/-- What comes back. -/
theorem bwd_fwd {n0 n1 n2 L : Nat} (hB : Box n0 n1 n2 L) (X Y : Nat → F) {i : Nat} (hi : i < L) : bwd n0 n1 n2 (fun j => fwd n0 n1 n2 X j * fwd n0 n1 n2 Y j) i = flat n1 n2 (fold3 n0 n1 n2 (cub n1 n2 X) (cub n1 n2 Y)) i := by
  rw [bwd_flat hB _ hi]
  obtain ⟨h0, h1, h2, hL, hb⟩ := hB
  have hB : Box n0 n1 n2 L := ⟨h0, h1, h2, hL, hb⟩
  have hdd : i / n2 / n1 < n0 := by
    rw [Nat.div_div_eq_div_mul]
    exact Nat.div_lt_of_lt_mul (by rw [Nat.mul_comm n2 n1, Nat.mul_comm, ← Nat.mul_assoc, ← hL]; exact hi)
  rw [flat_def, flat_def]
  have key : ∀ p q r, p < n0 → q < n1 → r < n2 → cub n1 n2 (fun j => fwd n0 n1 n2 X j * fwd n0 n1 n2 Y j) p q r =
      dft n2 (rt n2) (fun t => dft n1 (rt n1) (fun u => dft n0 (rt n0) (fun v => cub n1 n2 X v u t) p) q) r * dft n2 (rt n2) (fun t => dft n1 (rt n1) (fun u => dft n0 (rt n0) (fun v => cub n1 n2 Y v u t) p) q) r := by
    intro p q r hp hq hr
    have hx : (p * n1 + q) * n2 + r < L := by rw [hL]; exact idx_lt hp hq hr
    have a := fwd_flat hB X hx
    have b := fwd_flat hB Y hx
    rw [flat_idx hq hr] at a b
    rw [cub_def, ← a, ← b]
  rw [← box_fold h0 h1 h2 _ _ hdd (Nat.mod_lt _ h1.1) (Nat.mod_lt _ h2.1)]
  generalize i / n2 / n1 = a
  generalize i / n2 % n1 = b
  generalize i % n2 = c
  apply TC_idft n2
  intro r hr
  apply TC_idft n1
  intro q hq
  apply TC_idft n0
  intro p hp
  exact key p q r hp hq hr
/-- Sums of whole numbers. -/
def sz : Nat → (Nat → Int) → Int
  | 0, _ => 0
  | n + 1, f => sz n f + f n
def foldZ (n0 n1 n2 : Nat) (V W : Nat → Int) (i : Nat) : Int := sz n0 fun p => sz n1 fun q => sz n2 fun r => V ((p * n1 + q) * n2 + r) * W ((((i / n2 / n1 + (n0 - p)) % n0) * n1 + (i / n2 % n1 + (n1 - q)) % n1) * n2 + (i % n2 + (n2 - r)) % n2)
theorem iF_0 : iF 0 = 0 := by apply Fin.ext; rw [iF_val]; decide
theorem iF_sz (n : Nat) (f : Nat → Int) : iF (sz n f) = sm n (fun i => iF (f i)) := by
  induction n with
  | zero => exact iF_0
  | succ n ih => rw [sm_succ, ← ih, ← iF_add]; congr 1
theorem sz_congr {n : Nat} {f g : Nat → Int} (h : ∀ i, i < n → f i = g i) : sz n f = sz n g := by
  induction n with
  | zero => rfl
  | succ n ih => show sz n f + f n = sz n g + g n; rw [ih (fun i hi => h i (by omega)), h n (by omega)]
theorem fold_iF (n0 n1 n2 : Nat) (V W : Nat → Int) (i : Nat) : flat n1 n2 (fold3 n0 n1 n2 (cub n1 n2 (fun i => iF (V i))) (cub n1 n2 (fun i => iF (W i)))) i = iF (foldZ n0 n1 n2 V W i) := by
  unfold flat fold3 foldZ cub
  rw [iF_sz]
  refine sm_congr fun p _ => ?_
  rw [iF_sz]
  refine sm_congr fun q _ => ?_
  rw [iF_sz]
  exact sm_congr fun r _ => (iF_mul _ _).symm
theorem sz_bound {n : Nat} {f : Nat → Int} {K : Int} (h : ∀ i, i < n → -K ≤ f i ∧ f i ≤ K) : -(n * K) ≤ sz n f ∧ sz n f ≤ n * K := by
  induction n with
  | zero => show -((0 : Nat) * K : Int) ≤ 0 ∧ (0 : Int) ≤ ((0 : Nat) : Int) * K; simp
  | succ n ih =>
    have a := ih (fun i hi => h i (by omega))
    have b := h n (by omega)
    have e : ((n + 1 : Nat) : Int) * K = n * K + K := by rw [Int.natCast_add, Int.add_mul]; simp
    show _ ≤ sz n f + f n ∧ sz n f + f n ≤ _
    rw [e]; omega
theorem prod_bd {a b : Int} (ha : -1048576 ≤ a ∧ a ≤ 1048576) (hb : -1048576 ≤ b ∧ b ≤ 1048576) : -1099511627776 ≤ a * b ∧ a * b ≤ 1099511627776 := by
  have h : (a * b).natAbs ≤ 1048576 * 1048576 := by
    rw [Int.natAbs_mul]
    exact Nat.mul_le_mul (by omega) (by omega)
  omega
theorem fold_bound {n0 n1 n2 L : Nat} (hB : Box n0 n1 n2 L) {V W : Nat → Int} (hV : ∀ i, i < L → -1048576 ≤ V i ∧ V i ≤ 1048576) (hW : ∀ i, i < L → -1048576 ≤ W i ∧ W i ≤ 1048576) (i : Nat) :
    -288230376151711744 ≤ foldZ n0 n1 n2 V W i ∧ foldZ n0 n1 n2 V W i ≤ 288230376151711744 := by
  obtain ⟨h0, h1, h2, hL, hb⟩ := hB
  have b2 : ∀ p q, p < n0 → q < n1 → -((n2 : Int) * 1099511627776) ≤ sz n2 (fun r => V ((p * n1 + q) * n2 + r) * W ((((i / n2 / n1 + (n0 - p)) % n0) * n1 + (i / n2 % n1 + (n1 - q)) % n1) * n2 + (i % n2 + (n2 - r)) % n2)) ∧ sz n2 (fun r => V ((p * n1 + q) * n2 + r) * W ((((i / n2 / n1 + (n0 - p)) % n0) * n1 + (i / n2 % n1 + (n1 - q)) % n1) * n2 + (i % n2 + (n2 - r)) % n2)) ≤ (n2 : Int) * 1099511627776 := fun p q hp hq =>
    sz_bound (K := 1099511627776) fun r hr => prod_bd (hV _ (by rw [hL]; exact idx_lt hp hq hr)) (hW _ (by rw [hL]; exact idx_lt (Nat.mod_lt _ h0.1) (Nat.mod_lt _ h1.1) (Nat.mod_lt _ h2.1)))
  have b1 := fun p (hp : p < n0) => sz_bound (n := n1) (K := (n2 : Int) * 1099511627776) (f := fun q => sz n2 (fun r => V ((p * n1 + q) * n2 + r) * W ((((i / n2 / n1 + (n0 - p)) % n0) * n1 + (i / n2 % n1 + (n1 - q)) % n1) * n2 + (i % n2 + (n2 - r)) % n2))) (fun q hq => b2 p q hp hq)
  have b0 := sz_bound (n := n0) (K := (n1 : Int) * ((n2 : Int) * 1099511627776)) (f := fun p => sz n1 (fun q => sz n2 (fun r => V ((p * n1 + q) * n2 + r) * W ((((i / n2 / n1 + (n0 - p)) % n0) * n1 + (i / n2 % n1 + (n1 - q)) % n1) * n2 + (i % n2 + (n2 - r)) % n2)))) (fun p hp => b1 p hp)
  have e : (n0 : Int) * ((n1 : Int) * ((n2 : Int) * 1099511627776)) = (L : Int) * 1099511627776 := by
    rw [hL, Int.natCast_mul, Int.natCast_mul, Int.mul_assoc, Int.mul_assoc]
  rw [e] at b0
  unfold foldZ
  omega
end Go.Proofs.Ytjmhnmlmnlefaaa
