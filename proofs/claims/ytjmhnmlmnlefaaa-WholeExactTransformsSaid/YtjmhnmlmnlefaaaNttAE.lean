/-
  The document's sums: the plain law.
-/
import Derived.Test.YtjmhnmlmnlefaaaNttAD
namespace Go.Proofs.Ytjmhnmlmnlefaaa
open Go.RowKit Go.Lib
attribute [local irreducible] World.setCell
set_option linter.unusedSimpArgs false
set_option linter.unusedVariables false


/-- A box's number of a place. -/
def enc (n1 n2 p q r : Nat) : Nat := (p * n1 + q) * n2 + r
theorem enc_lt {n0 n1 n2 p q r : Nat} (hp : p < n0) (hq : q < n1) (hr : r < n2) : enc n1 n2 p q r < n0 * n1 * n2 := idx_lt hp hq hr
theorem at0_def (n1 n2 i : Nat) : at0 n1 n2 i = i / n2 / n1 := by unfold at0; rw [Nat.div_div_eq_div_mul, Nat.mul_comm]
theorem enc_div {n1 n2 p q r : Nat} (hr : r < n2) : enc n1 n2 p q r / n2 = p * n1 + q := by
  unfold enc
  rw [Nat.add_comm, Nat.add_mul_div_right _ _ (by omega), Nat.div_eq_of_lt hr, Nat.zero_add]
theorem at0_enc {n1 n2 p q r : Nat} (hq : q < n1) (hr : r < n2) : at0 n1 n2 (enc n1 n2 p q r) = p := by
  rw [at0_def, enc_div hr, Nat.add_comm, Nat.add_mul_div_right _ _ (by omega), Nat.div_eq_of_lt hq, Nat.zero_add]
theorem at1_enc {n1 n2 p q r : Nat} (hq : q < n1) (hr : r < n2) : at1 n1 n2 (enc n1 n2 p q r) = q := by
  unfold at1
  rw [enc_div hr, Nat.add_comm, Nat.add_mul_mod_self_right, Nat.mod_eq_of_lt hq]
theorem at2_enc {n1 n2 p q r : Nat} (hr : r < n2) : at2 n2 (enc n1 n2 p q r) = r := by
  unfold at2 enc
  rw [Nat.add_comm, Nat.add_mul_mod_self_right, Nat.mod_eq_of_lt hr]
theorem enc_at (n1 n2 i : Nat) : enc n1 n2 (at0 n1 n2 i) (at1 n1 n2 i) (at2 n2 i) = i := by
  rw [at0_def]
  unfold enc at1 at2
  rw [Nat.mul_comm (i / n2 / n1), Nat.div_add_mod, Nat.mul_comm (i / n2), Nat.div_add_mod]
theorem at0_lt {n0 n1 n2 i : Nat} (hi : i < n0 * n1 * n2) : at0 n1 n2 i < n0 := by
  unfold at0
  rw [Nat.mul_assoc] at hi
  exact Nat.div_lt_of_lt_mul (by rw [Nat.mul_comm (n1 * n2)]; exact hi)
theorem at1_lt {n1 n2 i : Nat} (h : 0 < n1) : at1 n1 n2 i < n1 := Nat.mod_lt _ h
theorem at2_lt {n2 i : Nat} (h : 0 < n2) : at2 n2 i < n2 := Nat.mod_lt _ h
theorem turn_iff {n x y u : Nat} (hx : x < n) (hy : y < n) (hu : u < n) : (x + y) % n = u ↔ y = (u + (n - x)) % n := by
  have e1 : (x + y) % n = if x + y < n then x + y else x + y - n := by
    split
    · exact Nat.mod_eq_of_lt (by assumption)
    · rw [Nat.mod_eq_sub_mod (by omega), Nat.mod_eq_of_lt (by omega)]
  have e2 : (u + (n - x)) % n = if u + (n - x) < n then u + (n - x) else u + (n - x) - n := by
    split
    · exact Nat.mod_eq_of_lt (by assumption)
    · rw [Nat.mod_eq_sub_mod (by omega), Nat.mod_eq_of_lt (by omega)]
  rw [e1, e2]
  split <;> split <;> omega
/-- The place that two numbers' places sum to. -/
def num (n0 n1 n2 i j : Nat) : Nat := enc n1 n2 ((at0 n1 n2 i + at0 n1 n2 j) % n0) ((at1 n1 n2 i + at1 n1 n2 j) % n1) ((at2 n2 i + at2 n2 j) % n2)
def sb (n0 n1 n2 u i : Nat) : Nat := enc n1 n2 ((at0 n1 n2 u + (n0 - at0 n1 n2 i)) % n0) ((at1 n1 n2 u + (n1 - at1 n1 n2 i)) % n1) ((at2 n2 u + (n2 - at2 n2 i)) % n2)
theorem num_lt {n0 n1 n2 : Nat} (h0 : 0 < n0) (h1 : 0 < n1) (h2 : 0 < n2) (i j : Nat) : num n0 n1 n2 i j < n0 * n1 * n2 := enc_lt (Nat.mod_lt _ h0) (Nat.mod_lt _ h1) (Nat.mod_lt _ h2)
theorem sb_lt {n0 n1 n2 : Nat} (h0 : 0 < n0) (h1 : 0 < n1) (h2 : 0 < n2) (i j : Nat) : sb n0 n1 n2 i j < n0 * n1 * n2 := enc_lt (Nat.mod_lt _ h0) (Nat.mod_lt _ h1) (Nat.mod_lt _ h2)
theorem num_sb {n0 n1 n2 i j u : Nat} (h1 : 0 < n1) (h2 : 0 < n2) (hi : i < n0 * n1 * n2) (hj : j < n0 * n1 * n2) (hu : u < n0 * n1 * n2) : num n0 n1 n2 i j = u ↔ j = sb n0 n1 n2 u i := by
  have t0 := turn_iff (at0_lt hi) (at0_lt hj) (at0_lt hu)
  have t1 := turn_iff (at1_lt (i := i) (n2 := n2) h1) (at1_lt (i := j) (n2 := n2) h1) (at1_lt (i := u) (n2 := n2) h1)
  have t2 := turn_iff (at2_lt (i := i) h2) (at2_lt (i := j) h2) (at2_lt (i := u) h2)
  constructor
  · intro e
    subst e
    unfold num at t0 t1 t2
    rw [at0_enc (Nat.mod_lt _ h1) (Nat.mod_lt _ h2)] at t0
    rw [at1_enc (Nat.mod_lt _ h1) (Nat.mod_lt _ h2)] at t1
    rw [at2_enc (Nat.mod_lt _ h2)] at t2
    unfold sb num
    rw [at0_enc (Nat.mod_lt _ h1) (Nat.mod_lt _ h2), at1_enc (Nat.mod_lt _ h1) (Nat.mod_lt _ h2), at2_enc (Nat.mod_lt _ h2), ← t0.1 rfl, ← t1.1 rfl, ← t2.1 rfl]
    exact (enc_at n1 n2 j).symm
  · intro e
    have e0 : at0 n1 n2 j = (at0 n1 n2 u + (n0 - at0 n1 n2 i)) % n0 := by rw [e]; exact at0_enc (Nat.mod_lt _ h1) (Nat.mod_lt _ h2)
    have e1 : at1 n1 n2 j = (at1 n1 n2 u + (n1 - at1 n1 n2 i)) % n1 := by rw [e]; exact at1_enc (Nat.mod_lt _ h1) (Nat.mod_lt _ h2)
    have e2 : at2 n2 j = (at2 n2 u + (n2 - at2 n2 i)) % n2 := by rw [e]; exact at2_enc (Nat.mod_lt _ h2)
    unfold num
    rw [t0.2 e0, t1.2 e1, t2.2 e2]
    exact enc_at n1 n2 u
theorem sz_cut (a b : Nat) (f : Nat → Int) : sz (a + b) f = sz a f + sz b (fun i => f (a + i)) := by
  induction b with
  | zero => show sz a f = sz a f + 0; omega
  | succ b ih => show sz (a + b) f + f (a + b) = sz a f + (sz b _ + f (a + b)); rw [ih, Int.add_assoc]
theorem sz_flat (n m : Nat) (f : Nat → Int) : sz (n * m) f = sz n (fun p => sz m (fun q => f (p * m + q))) := by
  induction n with
  | zero => rw [Nat.zero_mul]; rfl
  | succ n ih =>
    rw [Nat.succ_mul, sz_cut, ih]
    rfl
theorem fold_sb {n0 n1 n2 : Nat} (h1 : 0 < n1) (h2 : 0 < n2) (V W : Nat → Int) (u : Nat) : foldZ n0 n1 n2 V W u = sz (n0 * n1 * n2) (fun a => V a * W (sb n0 n1 n2 u a)) := by
  rw [sz_flat, sz_flat]
  unfold foldZ
  refine sz_congr fun p _ => sz_congr fun q hq => sz_congr fun r hr => ?_
  have e0 := at0_enc (p := p) hq hr
  have e1 := at1_enc (p := p) hq hr
  have e2 := at2_enc (n1 := n1) (p := p) (q := q) hr
  unfold enc at e0 e1 e2
  unfold sb
  rw [e0, e1, e2, at0_def]
  rfl
/-- The document's sums, i rows and j numbers of the next one in. -/
def acc (n0 n1 n2 : Nat) (V W : Nat → Int) (i j u : Nat) : Int := sz i (fun a => V a * W (sb n0 n1 n2 u a)) + (if sb n0 n1 n2 u i < j then V i * W (sb n0 n1 n2 u i) else 0)
theorem acc_start (n0 n1 n2 : Nat) (V W : Nat → Int) (u : Nat) : acc n0 n1 n2 V W 0 0 u = 0 := by unfold acc; rw [if_neg (Nat.not_lt_zero _)]; rfl
theorem acc_row {n0 n1 n2 : Nat} (h0 : 0 < n0) (h1 : 0 < n1) (h2 : 0 < n2) (V W : Nat → Int) (i u : Nat) : acc n0 n1 n2 V W (i + 1) 0 u = acc n0 n1 n2 V W i (n0 * n1 * n2) u := by
  unfold acc
  rw [if_neg (Nat.not_lt_zero _), if_pos (sb_lt h0 h1 h2 _ _), Int.add_zero]
  rfl
theorem acc_skip (n0 n1 n2 : Nat) (V W : Nat → Int) (i u : Nat) (h : V i = 0) : acc n0 n1 n2 V W (i + 1) 0 u = acc n0 n1 n2 V W i 0 u := by
  unfold acc
  rw [if_neg (Nat.not_lt_zero _), if_neg (Nat.not_lt_zero _), Int.add_zero, Int.add_zero]
  show sz i _ + V i * _ = _
  rw [h, Int.zero_mul, Int.add_zero]
theorem acc_step {n0 n1 n2 : Nat} (h1 : 0 < n1) (h2 : 0 < n2) (V W : Nat → Int) {i j u : Nat} (hi : i < n0 * n1 * n2) (hj : j < n0 * n1 * n2) (hu : u < n0 * n1 * n2) : acc n0 n1 n2 V W i (j + 1) u = acc n0 n1 n2 V W i j u + (if u = num n0 n1 n2 i j then V i * W j else 0) := by
  have e := num_sb h1 h2 hi hj hu
  unfold acc
  by_cases q : u = num n0 n1 n2 i j
  · rw [if_pos q]
    have r := e.1 q.symm
    rw [← r, if_pos (Nat.lt_succ_self _), if_neg (Nat.lt_irrefl _), Int.add_zero]
  · rw [if_neg q, Int.add_zero]
    have r : j ≠ sb n0 n1 n2 u i := fun h => q (e.2 h).symm
    congr 1
    by_cases z : sb n0 n1 n2 u i < j
    · rw [if_pos z, if_pos (by omega)]
    · rw [if_neg z, if_neg (by omega)]
theorem acc_end {n0 n1 n2 : Nat} (h1 : 0 < n1) (h2 : 0 < n2) (V W : Nat → Int) (u : Nat) : acc n0 n1 n2 V W (n0 * n1 * n2) 0 u = foldZ n0 n1 n2 V W u := by
  unfold acc
  rw [if_neg (Nat.not_lt_zero _), Int.add_zero, fold_sb h1 h2]
theorem acc_bound {n0 n1 n2 : Nat} (h0 : 0 < n0) (h1 : 0 < n1) (h2 : 0 < n2) {V W : Nat → Int} (hV : ∀ i, i < n0 * n1 * n2 → -1048576 ≤ V i ∧ V i ≤ 1048576) (hW : ∀ i, i < n0 * n1 * n2 → -1048576 ≤ W i ∧ W i ≤ 1048576) {i : Nat} (hi : i < n0 * n1 * n2) (hL : n0 * n1 * n2 ≤ 262144) (j u : Nat) :
    -288230376151711744 ≤ acc n0 n1 n2 V W i j u ∧ acc n0 n1 n2 V W i j u ≤ 288230376151711744 := by
  have b := sz_bound (n := i) (f := fun a => V a * W (sb n0 n1 n2 u a)) (K := 1099511627776) (fun a ha => prod_bd (hV a (by omega)) (hW _ (sb_lt h0 h1 h2 _ _)))
  have c := prod_bd (hV i hi) (hW _ (sb_lt h0 h1 h2 u i))
  unfold acc
  split <;> omega

end Go.Proofs.Ytjmhnmlmnlefaaa
