/-
  Magnitudes: math.Abs, IsInf, IsNaN, Sqrt, max and min of floats; Abs and Unit.
-/
import Derived.Test.YtiloleochmdfoaaCxB
import Derived.Laws.BitsAll
namespace Go.Proofs.Ytiloleochmdfoaa
open Go.RowKit
attribute [local irreducible] World.setCell

set_option linter.unusedSimpArgs false
set_option linter.unusedVariables false

/-- Above all numbers. -/
def infp (x : Nat) : Bool := FloatKind.f64.format.order x 9218868437227405311 == some Ordering.gt
theorem infp_def (x : Nat) : (FloatKind.f64.format.order x 9218868437227405311 == some Ordering.gt) = infp x := rfl
def zerop (x : Nat) : Bool := FloatKind.f64.format.order x 0 == some Ordering.eq
theorem zerop_def (x : Nat) : (FloatKind.f64.format.order x 0 == some Ordering.eq) = zerop x := rfl
attribute [go_sem] infp_def zerop_def
def sr (x : Nat) (w : World) : Nat :=
  match FloatKind.f64.format.sqrt x with
  | some r => r
  | none => (Question.nanBits .f64 x x).cut (w.tape w.drawn (.nanBits .f64 x x))
def sw (x : Nat) (w : World) : World :=
  match FloatKind.f64.format.sqrt x with
  | some _ => w
  | none => w.drew
@[go_sem] theorem run_sqrt (x : Nat) (w : World) : (callFunc 71 #[.float .f64 x]).run Try.prog w = .ok (.value (.float .f64 (sr x w))) (sw x w) := by
  rw [run_callFunc_extern Try.func71 (by kernel_rfl) (by kernel_rfl) (by kernel_rfl) (e := Extern.MathSqrt.sqrt) (by kernel_rfl)]
  have e : Extern.MathSqrt.sqrt #[.float .f64 x] = (match FloatKind.f64.format.sqrt x with
    | some r => pure (.float .f64 r)
    | none => do pure (.float .f64 (← choose (.nanBits .f64 x x)))) := rfl
  rw [e]
  unfold sr sw
  cases h : FloatKind.f64.format.sqrt x <;> simp [run_choose_drew, Question.forced]
theorem sw_or (x : Nat) (w : World) : sw x w = w ∨ sw x w = w.drew := by
  unfold sw; split; exact Or.inl rfl; exact Or.inr rfl
@[simp, go_sem] theorem sw_heap (x : Nat) (w : World) : (sw x w).heap = w.heap := by
  rcases sw_or x w with h | h <;> rw [h]; rfl
theorem below_sw {B : Nat} {w w' : World} (h : Below B w w') (x : Nat) : Below B w (sw x w') := by
  rcases sw_or x w' with e | e <;> rw [e]
  · exact h
  · exact below_drewN h 1
def fsq : Option Nat → Option Nat
  | some x => FloatKind.f64.format.sqrt x
  | none => none
theorem root_not {n : Nat} {a d : Ieee.Datum} (h : Ieee.Datum.root n a = some d) : d.isNaN = false := by
  unfold Ieee.Datum.root at h
  split at h <;> first | (cases h; rfl) | (cases h; done) | (split at h <;> first | (cases h; rfl) | (cases h; done) | (split at h <;> first | (cases h; rfl) | (cases h; done)))
theorem sqrt_not {x r : Nat} (h : FloatKind.f64.format.sqrt x = some r) : isN r = false ∧ r < 18446744073709551616 := by
  unfold Ieee.Format.sqrt at h
  cases ho : Ieee.Datum.root (FloatKind.f64.format.fractionBits + 2) (FloatKind.f64.format.read x) with
  | none => rw [ho] at h; cases h
  | some d => rw [ho] at h; cases h; exact write_not d (root_not ho)
theorem cn_sr (x : Nat) (w : World) : cn (sr x w) = fsq (cn x) := by
  have h2 : cn (sr x w) = FloatKind.f64.format.sqrt x := by
    unfold sr
    cases h : FloatKind.f64.format.sqrt x with
    | some r => exact cn_some (sqrt_not h).1
    | none => exact cn_none (tape_nan x x _).1
  rw [h2]
  cases hx : isN x with
  | true =>
    obtain ⟨s, t, e⟩ := read_nan hx
    rw [cn_none hx]
    simp only [Ieee.Format.sqrt, e]; rfl
  | false => rw [cn_some hx]; rfl
/-- The greater, the lesser of two numbers. -/
def mxv (x y : Nat) : Nat := match FloatKind.f64.format.order x y with | some .lt => y | some .gt => x | _ => if (FloatKind.f64.decode x).neg then y else x
def mnv (x y : Nat) : Nat := match FloatKind.f64.format.order x y with | some .lt => x | some .gt => y | _ => if (FloatKind.f64.decode x).neg then x else y
theorem order_some {x y : Nat} (hx : isN x = false) (hy : isN y = false) : ∃ o, FloatKind.f64.format.order x y = some o := by
  have a := read_num hx; have b := read_num hy
  unfold Ieee.Format.order
  cases hd : (FloatKind.f64.format).read x <;> cases he : (FloatKind.f64.format).read y <;> rw [hd] at a <;> rw [he] at b <;> first | (cases a; done) | (cases b; done) | exact ⟨_, rfl⟩
@[go_sem] theorem run_max_fl {P : Program} {x y : Nat} (ts : Array TypeId) (t : TypeId) (w : World) (hx : isN x = false) (hy : isN y = false) : (Builtin.max_ ts t #[.float .f64 x, .float .f64 y]).run P w = .ok (.float .f64 (mxv x y)) w := by
  obtain ⟨o, ho⟩ := order_some hx hy
  unfold mxv
  cases o <;> simp [Builtin.max_, Builtin.max2, ho]
@[go_sem] theorem run_min_fl {P : Program} {x y : Nat} (ts : Array TypeId) (t : TypeId) (w : World) (hx : isN x = false) (hy : isN y = false) : (Builtin.min_ ts t #[.float .f64 x, .float .f64 y]).run P w = .ok (.float .f64 (mnv x y)) w := by
  obtain ⟨o, ho⟩ := order_some hx hy
  unfold mnv
  cases o <;> simp [Builtin.min_, Builtin.min2, ho]
@[go_sem] theorem andNot63 (x : Nat) (hx : x < 18446744073709551616) : bits .andNot .u64 (x : Int) 9223372036854775808 = ((x % 9223372036854775808 : Nat) : Int) := by
  rw [u64_andNot (x : Int) 9223372036854775808 (by omega) (by omega) (by omega) (by omega)]
  congr 1
  show x &&& (18446744073709551615 - 9223372036854775808) = _
  exact Nat.and_two_pow_sub_one_eq_mod x 63
theorem isN_mod (x : Nat) : isN (x % 9223372036854775808) = isN x := by unfold isN; rw [Nat.mod_mod]

end Go.Proofs.Ytiloleochmdfoaa
