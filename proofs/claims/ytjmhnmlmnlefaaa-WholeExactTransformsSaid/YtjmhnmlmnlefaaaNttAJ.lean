/-
  Laws of the fold: plain.
-/
import Derived.Test.YtjmhnmlmnlefaaaNttAI
namespace Go.Proofs.Ytjmhnmlmnlefaaa
open Go.RowKit Go.Lib
attribute [local irreducible] World.setCell
set_option linter.unusedSimpArgs false
set_option linter.unusedVariables false


theorem sz_nought (n : Nat) : sz n (fun _ => 0) = 0 := by
  induction n with
  | zero => rfl
  | succ n ih => show sz n _ + 0 = 0; rw [ih]; rfl
theorem sz_add (n : Nat) (f g : Nat → Int) : sz n (fun i => f i + g i) = sz n f + sz n g := by
  induction n with
  | zero => rfl
  | succ n ih => show sz n _ + (f n + g n) = (sz n f + f n) + (sz n g + g n); rw [ih]; omega
theorem sz_mul (n : Nat) (c : Int) (f : Nat → Int) : sz n (fun i => c * f i) = c * sz n f := by
  induction n with
  | zero => show (0 : Int) = c * 0; rw [Int.mul_zero]
  | succ n ih => show sz n _ + c * f n = c * (sz n f + f n); rw [ih, Int.mul_add]
theorem sz_mulr (n : Nat) (c : Int) (f : Nat → Int) : sz n (fun i => f i * c) = sz n f * c := by
  rw [Int.mul_comm, ← sz_mul]; exact sz_congr fun i _ => Int.mul_comm _ _
theorem sz_swap (n m : Nat) (f : Nat → Nat → Int) : sz n (fun i => sz m (fun j => f i j)) = sz m (fun j => sz n (fun i => f i j)) := by
  induction n with
  | zero => exact (sz_nought m).symm
  | succ n ih => show sz n _ + sz m _ = _; rw [ih, ← sz_add]; rfl
theorem sz_lone {n k : Nat} (hk : k < n) (f : Nat → Int) (h : ∀ i, i < n → i ≠ k → f i = 0) : sz n f = f k := by
  induction n with
  | zero => omega
  | succ n ih =>
    show sz n f + f n = f k
    by_cases e : k = n
    · subst e
      rw [sz_congr (g := fun _ => 0) (fun i hi => h i (by omega) (by omega)), sz_nought, Int.zero_add]
    · rw [ih (by omega) (fun i hi hn => h i (by omega) hn), h n (by omega) (fun q => e q.symm), Int.add_zero]
/-- The fold as a sum over pairs. -/
theorem fold_dbl {n0 n1 n2 : Nat} (h0 : 0 < n0) (h1 : 0 < n1) (h2 : 0 < n2) (V W : Nat → Int) {u : Nat} (hu : u < n0 * n1 * n2) :
    foldZ n0 n1 n2 V W u = sz (n0 * n1 * n2) (fun i => sz (n0 * n1 * n2) (fun j => if num n0 n1 n2 i j = u then V i * W j else 0)) := by
  rw [fold_sb h1 h2]
  refine sz_congr fun i hi => ?_
  have hs := sb_lt h0 h1 h2 u i
  rw [sz_lone hs _ (fun j hj hn => by rw [if_neg (fun e => hn ((num_sb h1 h2 hi hj hu).1 e))]), if_pos ((num_sb h1 h2 hi hs hu).2 rfl)]
theorem num_comm (n0 n1 n2 i j : Nat) : num n0 n1 n2 i j = num n0 n1 n2 j i := by unfold num; rw [Nat.add_comm (at0 n1 n2 i), Nat.add_comm (at1 n1 n2 i), Nat.add_comm (at2 n2 i)]
theorem fold_comm {n0 n1 n2 : Nat} (h0 : 0 < n0) (h1 : 0 < n1) (h2 : 0 < n2) (V W : Nat → Int) {u : Nat} (hu : u < n0 * n1 * n2) : foldZ n0 n1 n2 V W u = foldZ n0 n1 n2 W V u := by
  rw [fold_dbl h0 h1 h2 V W hu, fold_dbl h0 h1 h2 W V hu, sz_swap]
  exact sz_congr fun j _ => sz_congr fun i _ => by rw [num_comm, Int.mul_comm]
theorem fold_sum {n0 n1 n2 : Nat} (h0 : 0 < n0) (h1 : 0 < n1) (h2 : 0 < n2) (V W : Nat → Int) : sz (n0 * n1 * n2) (foldZ n0 n1 n2 V W) = sz (n0 * n1 * n2) V * sz (n0 * n1 * n2) W := by
  rw [sz_congr (fun u hu => fold_dbl h0 h1 h2 V W hu), sz_swap, ← sz_mulr]
  refine sz_congr fun i _ => ?_
  rw [sz_swap, ← sz_mul]
  refine sz_congr fun j _ => ?_
  rw [sz_lone (num_lt h0 h1 h2 i j) _ (fun u _ hn => by rw [if_neg (fun e => hn e.symm)]), if_pos rfl]
theorem num_inj {n0 n1 n2 i i' k : Nat} (h0 : 0 < n0) (h1 : 0 < n1) (h2 : 0 < n2) (hi : i < n0 * n1 * n2) (hi' : i' < n0 * n1 * n2) (hk : k < n0 * n1 * n2) (h : num n0 n1 n2 i' k = num n0 n1 n2 i k) : i' = i := by
  have hu := num_lt h0 h1 h2 i k
  have a := (num_sb h1 h2 hk hi hu).1 (num_comm n0 n1 n2 k i)
  have b := (num_sb h1 h2 hk hi' hu).1 ((num_comm n0 n1 n2 k i').trans h)
  rw [a, b]
def lone (k i : Nat) : Int := if i = k then 1 else 0
theorem fold_lone {n0 n1 n2 : Nat} (h0 : 0 < n0) (h1 : 0 < n1) (h2 : 0 < n2) (V : Nat → Int) {i k : Nat} (hi : i < n0 * n1 * n2) (hk : k < n0 * n1 * n2) : foldZ n0 n1 n2 V (lone k) (num n0 n1 n2 i k) = V i := by
  rw [fold_dbl h0 h1 h2 V _ (num_lt h0 h1 h2 i k), sz_lone hi _ (fun i' hi' hn => by
    rw [sz_lone hk _ (fun j _ hj => by unfold lone; rw [if_neg hj, Int.mul_zero]; split <;> rfl), if_neg (fun e => hn (num_inj h0 h1 h2 hi hi' hk e))])]
  rw [sz_lone hk _ (fun j _ hj => by unfold lone; rw [if_neg hj, Int.mul_zero]; split <;> rfl), if_pos rfl]
  unfold lone
  rw [if_pos rfl, Int.mul_one]
theorem fold_plus (n0 n1 n2 : Nat) (h1 : 0 < n1) (h2 : 0 < n2) (V W U : Nat → Int) (u : Nat) : foldZ n0 n1 n2 V (fun i => W i + U i) u = foldZ n0 n1 n2 V W u + foldZ n0 n1 n2 V U u := by
  rw [fold_sb h1 h2, fold_sb h1 h2, fold_sb h1 h2, ← sz_add]
  exact sz_congr fun i _ => Int.mul_add _ _ _
theorem fold_bound' {n0 n1 n2 : Nat} (h0 : 0 < n0) (h1 : 0 < n1) (h2 : 0 < n2) {V W : Nat → Int} (hV : ∀ i, i < n0 * n1 * n2 → -1048576 ≤ V i ∧ V i ≤ 1048576) (hW : ∀ i, i < n0 * n1 * n2 → -1048576 ≤ W i ∧ W i ≤ 1048576) (u : Nat) :
    -(((n0 * n1 * n2 : Nat) : Int) * 1099511627776) ≤ foldZ n0 n1 n2 V W u ∧ foldZ n0 n1 n2 V W u ≤ ((n0 * n1 * n2 : Nat) : Int) * 1099511627776 := by
  rw [fold_sb h1 h2]
  exact sz_bound fun a ha => prod_bd (hV a ha) (hW _ (sb_lt h0 h1 h2 _ _))

end Go.Proofs.Ytjmhnmlmnlefaaa
