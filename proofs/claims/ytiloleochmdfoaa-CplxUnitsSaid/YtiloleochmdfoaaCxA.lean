/-
  Floats: what an operation gives, NaNs as one; bits.
-/
import Derived.Test.YtiloleochmdfoaaBase
import Derived.WalkLawsBesides
namespace Go.Proofs.Ytiloleochmdfoaa
open Go.RowKit
attribute [local irreducible] World.setCell

set_option linter.unusedSimpArgs false
set_option linter.unusedVariables false

/-- The bits of a result: where it is a NaN, those that the tape gives. -/
def fr (op : BinOp) (x y : Nat) (w : World) : Nat :=
  match floatBits op .f64 x y with
  | some r => r
  | none => (Question.nanBits .f64 x y).cut (w.tape w.drawn (.nanBits .f64 x y))
def fw (op : BinOp) (x y : Nat) (w : World) : World :=
  match floatBits op .f64 x y with
  | some _ => w
  | none => w.drew
theorem run_fl {P : Program} (op : BinOp) (hop : op = .add ∨ op = .sub ∨ op = .mul ∨ op = .quo) (t : TypeId) (x y : Nat) (w : World) :
    (binOp op t (.float .f64 x) (.float .f64 y)).run P w = .ok (.float .f64 (fr op x y w)) (fw op x y w) := by
  unfold fr fw
  cases h : floatBits op .f64 x y with
  | some r => exact run_float_arith w op t .f64 x y r h
  | none =>
    unfold floatBits at h
    rcases hop with rfl | rfl | rfl | rfl <;> simp only at h <;> simp [binOp, Op.floatArith, h, run_choose_drew, Question.forced]
@[go_sem] theorem run_fl_add {P : Program} (t : TypeId) (x y : Nat) (w : World) : (binOp .add t (.float .f64 x) (.float .f64 y)).run P w = .ok (.float .f64 (fr .add x y w)) (fw .add x y w) := run_fl _ (by simp) t x y w
@[go_sem] theorem run_fl_sub {P : Program} (t : TypeId) (x y : Nat) (w : World) : (binOp .sub t (.float .f64 x) (.float .f64 y)).run P w = .ok (.float .f64 (fr .sub x y w)) (fw .sub x y w) := run_fl _ (by simp) t x y w
@[go_sem] theorem run_fl_mul {P : Program} (t : TypeId) (x y : Nat) (w : World) : (binOp .mul t (.float .f64 x) (.float .f64 y)).run P w = .ok (.float .f64 (fr .mul x y w)) (fw .mul x y w) := run_fl _ (by simp) t x y w
@[go_sem] theorem run_fl_quo {P : Program} (t : TypeId) (x y : Nat) (w : World) : (binOp .quo t (.float .f64 x) (.float .f64 y)).run P w = .ok (.float .f64 (fr .quo x y w)) (fw .quo x y w) := run_fl _ (by simp) t x y w
theorem fw_or (op : BinOp) (x y : Nat) (w : World) : fw op x y w = w ∨ fw op x y w = w.drew := by
  unfold fw; split; exact Or.inl rfl; exact Or.inr rfl
@[simp, go_sem] theorem fw_heap (op : BinOp) (x y : Nat) (w : World) : (fw op x y w).heap = w.heap := by
  rcases fw_or op x y w with h | h <;> rw [h]; rfl
@[simp, go_sem] theorem fw_cell (op : BinOp) (x y : Nat) (w : World) (a : Addr) : (fw op x y w).cell? a = w.cell? a := by
  rcases fw_or op x y w with h | h <;> rw [h]; rfl
@[simp, go_sem] theorem fw_frozen (op : BinOp) (x y : Nat) (w : World) (a : Addr) : (fw op x y w).frozen? a = w.frozen? a := by
  rcases fw_or op x y w with h | h <;> rw [h]; rfl
theorem below_fw {B : Nat} {w w' : World} (h : Below B w w') (op : BinOp) (x y : Nat) : Below B w (fw op x y w') := by
  rcases fw_or op x y w' with e | e <;> rw [e]
  · exact h
  · exact below_drewN h 1
/-- A NaN. -/
def isN (x : Nat) : Bool := decide (9218868437227405312 < x % 9223372036854775808)
/-- A float, the NaNs as one. -/
def cn (x : Nat) : Option Nat := if isN x then none else some x
def fop (op : BinOp) : Option Nat → Option Nat → Option Nat
  | some x, some y => floatBits op .f64 x y
  | _, _ => none
theorem read_nan {x : Nat} (h : isN x = true) : ∃ s t, (FloatKind.f64.format).read x = .nan s t := by
  have h' : 9218868437227405312 < x % 9223372036854775808 := of_decide_eq_true h
  refine ⟨x / 9223372036854775808 % 2 == 1, x % 9223372036854775808 - 9218868437227405312, ?_⟩
  show Ieee.Format.read Ieee.double x = _
  unfold Ieee.Format.read
  rw [show Ieee.double.signWeight = 9223372036854775808 from rfl, show Ieee.double.binade = 4503599627370496 from rfl, show Ieee.double.infRung = 9218868437227405312 from rfl]
  simp only
  rw [if_neg (by omega), if_neg (by omega), if_neg (by omega)]
theorem read_num {x : Nat} (h : isN x = false) : ((FloatKind.f64.format).read x).isNaN = false := by
  have h' : ¬ 9218868437227405312 < x % 9223372036854775808 := of_decide_eq_false h
  show (Ieee.Format.read Ieee.double x).isNaN = false
  unfold Ieee.Format.read
  rw [show Ieee.double.signWeight = 9223372036854775808 from rfl, show Ieee.double.binade = 4503599627370496 from rfl, show Ieee.double.infRung = 9218868437227405312 from rfl]
  simp only
  split
  · rfl
  · split
    · rfl
    · rw [if_pos (by omega)]; rfl
theorem word_not (s : Bool) (k : Nat) (h : k ≤ 9218868437227405312) : isN (Ieee.double.word s k) = false ∧ Ieee.double.word s k < 18446744073709551616 := by
  unfold Ieee.Format.word isN
  rw [show Ieee.double.signWeight = 9223372036854775808 from rfl]
  cases s
  · simp; omega
  · simp; omega
theorem write_not (d : Ieee.Datum) (h : d.isNaN = false) : isN (Ieee.double.write d) = false ∧ Ieee.double.write d < 18446744073709551616 := by
  cases d with
  | nan s t => cases h
  | infinity s => exact word_not s _ (by decide)
  | number s m e =>
    show isN (Ieee.double.nearest s m e) = false ∧ Ieee.double.nearest s m e < 18446744073709551616
    unfold Ieee.Format.nearest
    split
    · exact word_not s 0 (by decide)
    · exact word_not s _ (Nat.min_le_right _ _)
theorem sum_not {a b d : Ieee.Datum} (h : a.sum b = some d) : d.isNaN = false := by
  unfold Ieee.Datum.sum at h
  split at h <;> first | (cases h; rfl) | (cases h; done) | (split at h <;> first | (cases h; rfl) | (cases h; done))
theorem product_not {a b d : Ieee.Datum} (h : a.product b = some d) : d.isNaN = false := by
  unfold Ieee.Datum.product at h
  split at h <;> first | (cases h; rfl) | (cases h; done) | (split at h <;> first | (cases h; rfl) | (cases h; done))
theorem quotient_not {n : Nat} {a b d : Ieee.Datum} (h : Ieee.Datum.quotient n a b = some d) : d.isNaN = false := by
  unfold Ieee.Datum.quotient at h
  split at h <;> first | (cases h; rfl) | (cases h; done) | (split at h <;> first | (cases h; rfl) | (cases h; done) | (split at h <;> first | (cases h; rfl) | (cases h; done)))
theorem bits_not {op : BinOp} {x y r : Nat} (h : floatBits op .f64 x y = some r) : isN r = false ∧ r < 18446744073709551616 := by
  unfold floatBits at h
  have hw : ∀ {o : Option Ieee.Datum}, (∀ d, o = some d → d.isNaN = false) → o.map (FloatKind.f64.format).write = some r → isN r = false ∧ r < 18446744073709551616 := by
    intro o ho he
    cases o with
    | none => cases he
    | some d => cases he; exact write_not d (ho d rfl)
  split at h
  · exact hw (fun d e => sum_not e) h
  · exact hw (fun d e => sum_not e) h
  · exact hw (fun d e => product_not e) h
  · exact hw (fun d e => quotient_not e) h
  · cases h
theorem bits_nan {op : BinOp} {x y : Nat} (h : isN x = true ∨ isN y = true) : floatBits op .f64 x y = none := by
  unfold floatBits
  rcases h with h | h
  · obtain ⟨s, t, e⟩ := read_nan h
    split <;> first | rfl | (simp only [Ieee.Format.add, Ieee.Format.sub, Ieee.Format.mul, Ieee.Format.div, e]; rfl)
  · obtain ⟨s, t, e⟩ := read_nan h
    split <;> first | rfl | (simp only [Ieee.Format.add, Ieee.Format.sub, Ieee.Format.mul, Ieee.Format.div, e, Ieee.Datum.opposite]; cases (FloatKind.f64.format).read x <;> rfl)
theorem tape_nan (x y t : Nat) : isN ((Question.nanBits .f64 x y).cut t) = true ∧ (Question.nanBits .f64 x y).cut t < 18446744073709551616 := by
  show isN ((t % 2) * 2 ^ 63 + 0x7ff0000000000000 + 1 + (t / 2) % (2 ^ 52 - 1)) = true ∧ (t % 2) * 2 ^ 63 + 0x7ff0000000000000 + 1 + (t / 2) % (2 ^ 52 - 1) < 18446744073709551616
  unfold isN
  simp only [decide_eq_true_eq]
  have hk : t / 2 % (2 ^ 52 - 1) < 2 ^ 52 - 1 := Nat.mod_lt _ (by decide)
  generalize t / 2 % (2 ^ 52 - 1) = k at hk ⊢
  rcases (by omega : t % 2 = 0 ∨ t % 2 = 1) with h | h <;> rw [h] <;> omega
theorem fr_lt (op : BinOp) (x y : Nat) (w : World) : fr op x y w < 18446744073709551616 := by
  unfold fr
  split
  · rename_i h; exact (bits_not h).2
  · exact (tape_nan x y _).2
theorem cn_some {x : Nat} (h : isN x = false) : cn x = some x := by unfold cn; rw [h]; rfl
theorem cn_none {x : Nat} (h : isN x = true) : cn x = none := by unfold cn; rw [h]; rfl
theorem cn_fr (op : BinOp) (x y : Nat) (w : World) : cn (fr op x y w) = fop op (cn x) (cn y) := by
  have h2 : cn (fr op x y w) = floatBits op .f64 x y := by
    unfold fr
    cases h : floatBits op .f64 x y with
    | some r => exact cn_some (bits_not h).1
    | none => exact cn_none (tape_nan x y _).1
  rw [h2]
  cases hx : isN x with
  | true => rw [cn_none hx, bits_nan (Or.inl hx)]; rfl
  | false =>
    cases hy : isN y with
    | true => rw [cn_none hy, bits_nan (Or.inr hy), cn_some hx]; rfl
    | false => rw [cn_some hx, cn_some hy]; rfl
/-- Bit by bit, NaNs as one. -/
def samev (x y : Nat) : Bool := decide (x = y) || (isN x && isN y)
theorem samev_cn (x y : Nat) : samev x y = decide (cn x = cn y) := by
  unfold samev cn
  cases hx : isN x <;> cases hy : isN y <;> simp
  · rintro rfl; rw [hx] at hy; cases hy
  · rintro rfl; rw [hx] at hy; cases hy
theorem samev_of {x y : Nat} (h : cn x = cn y) : samev x y = true := by rw [samev_cn, decide_eq_true h]
theorem order_self (x : Nat) : (FloatKind.f64.format.order x x != some Ordering.eq) = isN x := by
  cases h : isN x with
  | true =>
    obtain ⟨s, t, e⟩ := read_nan h
    simp only [Ieee.Format.order, e]; rfl
  | false =>
    have e := read_num h
    unfold Ieee.Format.order
    cases hd : (FloatKind.f64.format).read x with
    | nan s t => rw [hd] at e; cases e
    | infinity s => cases s <;> rfl
    | number s m i => simp [Ieee.Datum.order, compare, compareOfLessAndEq]
attribute [go_sem] order_self
@[go_sem] theorem run_frombits (n : Int) (w : World) : (callFunc 16 #[.int .u64 n]).run Try.prog w = .ok (.value (.float .f64 n.toNat)) w := by
  rw [run_callFunc_extern Try.func16 (by kernel_rfl) (by kernel_rfl) (by kernel_rfl) (e := Extern.MathFloatBits.float64frombits) (by kernel_rfl)]; rfl
@[go_sem] theorem run_bits (n : Nat) (w : World) : (callFunc 59 #[.float .f64 n]).run Try.prog w = .ok (.value (.int .u64 n)) w := by
  rw [run_callFunc_extern Try.func59 (by kernel_rfl) (by kernel_rfl) (by kernel_rfl) (e := Extern.MathFloatBits.float64bits) (by kernel_rfl)]; rfl

end Go.Proofs.Ytiloleochmdfoaa
