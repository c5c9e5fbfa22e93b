/-
  Plain law: signs turned, noughts of both signs, exact results.
-/
import Derived.Test.YtiloleochmdfoaaCxG
namespace Go.Proofs.Ytiloleochmdfoaa
open Go.RowKit
attribute [local irreducible] World.setCell

set_option linter.unusedSimpArgs false
set_option linter.unusedVariables false

/-- The other sign. -/
def ng (x : Nat) : Nat := x ^^^ 9223372036854775808
def nO (o : Option Nat) : Option Nat := o.map ng
theorem ng_def (x : Nat) : Go.Op.negFloat .f64 x = ng x := rfl
theorem ng_mod (x : Nat) : ng x % 9223372036854775808 = x % 9223372036854775808 := by
  have h : (x ^^^ 2 ^ 63) % 2 ^ 63 = (x % 2 ^ 63) ^^^ (2 ^ 63 % 2 ^ 63) := Nat.xor_mod_two_pow
  rw [Nat.mod_self, Nat.xor_zero] at h
  exact h
theorem ng_div (x : Nat) : ng x / 9223372036854775808 = (x / 9223372036854775808) ^^^ 1 := by
  have h : (x ^^^ 2 ^ 63) / 2 ^ 63 = (x / 2 ^ 63) ^^^ (2 ^ 63 / 2 ^ 63) := Nat.xor_div_two_pow
  rw [Nat.div_self (by decide)] at h
  exact h
theorem ng_ng (x : Nat) : ng (ng x) = x := by unfold ng; rw [Nat.xor_assoc, Nat.xor_self, Nat.xor_zero]
theorem ng_low {k : Nat} (h : k < 9223372036854775808) : ng k = 9223372036854775808 + k := by
  have a := ng_mod k; have b := ng_div k
  rw [Nat.div_eq_of_lt h, Nat.zero_xor] at b
  rw [Nat.mod_eq_of_lt h] at a
  omega
theorem ng_high {k : Nat} (h : k < 9223372036854775808) : ng (9223372036854775808 + k) = k := by
  rw [← ng_low h, ng_ng]
theorem ng_lt {x : Nat} (h : x < 18446744073709551616) : ng x < 18446744073709551616 := by
  rcases Nat.lt_or_ge x 9223372036854775808 with q | q
  · rw [ng_low q]; omega
  · obtain ⟨k, rfl⟩ : ∃ k, x = 9223372036854775808 + k := ⟨x - 9223372036854775808, by omega⟩
    rw [ng_high (by omega)]; omega
theorem isN_ng (x : Nat) : isN (ng x) = isN x := by unfold isN; rw [ng_mod]
theorem cn_ng (x : Nat) : cn (ng x) = nO (cn x) := by
  unfold cn; rw [isN_ng]; split <;> rfl
theorem nO_nO (o : Option Nat) : nO (nO o) = o := by cases o <;> simp [nO, ng_ng]
theorem rd_eq : FloatKind.f64.format = Ieee.double := rfl
theorem read_ng {x : Nat} (h : x < 18446744073709551616) : Ieee.double.read (ng x) = (Ieee.double.read x).opposite := by
  have hs : (ng x / 9223372036854775808 % 2 == 1) = !(x / 9223372036854775808 % 2 == 1) := by
    rcases Nat.lt_or_ge x 9223372036854775808 with q | q
    · rw [ng_low q, show (9223372036854775808 + x) / 9223372036854775808 = 1 by omega, show x / 9223372036854775808 = 0 by omega]; rfl
    · obtain ⟨k, rfl⟩ : ∃ k, x = 9223372036854775808 + k := ⟨x - 9223372036854775808, by omega⟩
      rw [ng_high (by omega), show (9223372036854775808 + k) / 9223372036854775808 = 1 by omega, show k / 9223372036854775808 = 0 by omega]; rfl
  unfold Ieee.Format.read
  rw [show Ieee.double.signWeight = 9223372036854775808 from rfl]
  simp only [ng_mod, hs]
  split
  · rfl
  · split
    · rfl
    · split <;> rfl
theorem word_opp (s : Bool) {k : Nat} (h : k ≤ 9218868437227405312) : Ieee.double.word (!s) k = ng (Ieee.double.word s k) := by
  unfold Ieee.Format.word
  rw [show Ieee.double.signWeight = 9223372036854775808 from rfl]
  cases s
  · simp [ng_low (show k < 9223372036854775808 by omega)]
  · simp [ng_high (show k < 9223372036854775808 by omega)]
theorem write_opp (d : Ieee.Datum) (h : d.isNaN = false) : Ieee.double.write d.opposite = ng (Ieee.double.write d) := by
  cases d with
  | nan s t => cases h
  | infinity s => exact word_opp s (by decide)
  | number s m e =>
    show Ieee.double.nearest (!s) m e = ng (Ieee.double.nearest s m e)
    unfold Ieee.Format.nearest
    split
    · exact word_opp s (by decide)
    · exact word_opp s (Nat.min_le_right _ _)
/-- One and the same, but for the sign of a nought. -/
def zr (o : Option Nat) : Prop := o = some 0 ∨ o = some 9223372036854775808
def RZ (a b : Option Nat) : Prop := a = b ∨ (zr a ∧ zr b)
theorem RZ.refl (a : Option Nat) : RZ a a := .inl rfl
theorem RZ.symm {a b : Option Nat} (h : RZ a b) : RZ b a := by rcases h with rfl | ⟨x, y⟩; exact .inl rfl; exact .inr ⟨y, x⟩
theorem RZ.trans {a b c : Option Nat} (h : RZ a b) (g : RZ b c) : RZ a c := by
  rcases h with rfl | ⟨x, y⟩
  · exact g
  · rcases g with rfl | ⟨_, z⟩
    · exact .inr ⟨x, y⟩
    · exact .inr ⟨x, z⟩
theorem zr_nO {a : Option Nat} (h : zr a) : zr (nO a) := by
  rcases h with rfl | rfl
  · exact .inr (by decide)
  · exact .inl (by decide)
theorem RZ.neg {a b : Option Nat} (h : RZ a b) : RZ (nO a) (nO b) := by
  rcases h with rfl | ⟨x, y⟩
  · exact .inl rfl
  · exact .inr ⟨zr_nO x, zr_nO y⟩
theorem word0 (s : Bool) : zr (some (Ieee.double.word s 0)) := by cases s; exact .inl rfl; exact .inr rfl
theorem wz (s : Bool) (p : Int) : zr (some (Ieee.double.write (.number s 0 p))) := word0 s
theorem read_zr {o : Option Nat} (h : zr o) : ∃ x s, o = some x ∧ Ieee.double.read x = .number s 0 (-1074) := by
  rcases h with rfl | rfl
  · exact ⟨0, false, rfl, by decide +kernel⟩
  · exact ⟨9223372036854775808, true, rfl, by decide +kernel⟩
theorem fmul_def (x y : Nat) : fop .mul (some x) (some y) = ((Ieee.double.read x).product (Ieee.double.read y)).map Ieee.double.write := rfl
theorem fadd_def (x y : Nat) : fop .add (some x) (some y) = ((Ieee.double.read x).sum (Ieee.double.read y)).map Ieee.double.write := rfl
theorem fsub_def (x y : Nat) : fop .sub (some x) (some y) = ((Ieee.double.read x).sum (Ieee.double.read y).opposite).map Ieee.double.write := rfl
/-- All numbers of a list of options are words. -/
def W64 (o : Option Nat) : Prop := ∀ x, o = some x → x < 18446744073709551616
theorem sub_add {x y : Option Nat} (hy : W64 y) : fop .sub x y = fop .add x (nO y) := by
  cases x <;> cases y <;> try rfl
  rename_i a b
  show fop .sub (some a) (some b) = fop .add (some a) (some (ng b))
  rw [fsub_def, fadd_def, read_ng (hy b rfl)]
theorem product_opp (a b : Ieee.Datum) : a.opposite.product b = (a.product b).map Ieee.Datum.opposite := by
  cases a <;> cases b <;> simp [Ieee.Datum.product, Ieee.Datum.opposite] <;> (split <;> simp [Ieee.Datum.opposite])
theorem map_opp {o : Option Ieee.Datum} (h : ∀ d, o = some d → d.isNaN = false) : (o.map Ieee.Datum.opposite).map Ieee.double.write = nO (o.map Ieee.double.write) := by
  cases o with
  | none => rfl
  | some d => simp [nO, write_opp d (h d rfl)]
theorem mul_ngl {x : Option Nat} (y : Option Nat) (hx : W64 x) : fop .mul (nO x) y = nO (fop .mul x y) := by
  cases x <;> cases y <;> try rfl
  rename_i a b
  show fop .mul (some (ng a)) (some b) = _
  rw [fmul_def, fmul_def, read_ng (hx a rfl), product_opp, map_opp (fun d e => product_not e)]
theorem mul_ngr (x : Option Nat) {y : Option Nat} (hy : W64 y) : fop .mul x (nO y) = nO (fop .mul x y) := by
  rw [fop_mul_comm, mul_ngl x hy, fop_mul_comm]
theorem W64.fop (op : BinOp) (x y : Option Nat) : W64 (fop op x y) := by
  intro r h
  cases x <;> cases y <;> try (cases h; done)
  exact (bits_not h).2
theorem W64.nO {x : Option Nat} (h : W64 x) : W64 (nO x) := by
  intro r e
  cases x with
  | none => cases e
  | some a => cases e; exact ng_lt (h a rfl)
theorem W64.cn {x : Nat} (h : x < 18446744073709551616) : W64 (cn x) := by
  intro r e
  rw [← cn_eq e]; exact h
theorem zr_mul {x y : Option Nat} (z : Option Nat) (hx : zr x) (hy : zr y) : RZ (fop .mul x z) (fop .mul y z) := by
  obtain ⟨a, s, rfl, ea⟩ := read_zr hx
  obtain ⟨b, t, rfl, eb⟩ := read_zr hy
  cases z with
  | none => exact .inl rfl
  | some c =>
    rw [fmul_def, fmul_def, ea, eb]
    cases Ieee.double.read c with
    | nan _ _ => exact .inl rfl
    | infinity _ => exact .inl rfl
    | number u n j => simp only [Ieee.Datum.product, Nat.zero_mul]; exact .inr ⟨wz _ _, wz _ _⟩
theorem RZ.mull {x y : Option Nat} (h : RZ x y) (z : Option Nat) : RZ (fop .mul x z) (fop .mul y z) := by
  rcases h with rfl | ⟨a, b⟩
  · exact .inl rfl
  · exact zr_mul z a b
theorem sg0 (s : Bool) (u : Nat) : Ieee.signed s 0 u = 0 := by cases s <;> simp [Ieee.signed]
theorem zr_add {x y : Option Nat} (z : Option Nat) (hx : zr x) (hy : zr y) : RZ (fop .add x z) (fop .add y z) := by
  obtain ⟨a, s, rfl, ea⟩ := read_zr hx
  obtain ⟨b, t, rfl, eb⟩ := read_zr hy
  cases z with
  | none => exact .inl rfl
  | some c =>
    rw [fadd_def, fadd_def, ea, eb]
    cases Ieee.double.read c with
    | nan _ _ => exact .inl rfl
    | infinity _ => exact .inl rfl
    | number u n j =>
      simp only [Ieee.Datum.sum, sg0, Int.zero_add]
      by_cases h0 : Ieee.signed u n (j - min (-1074) j).toNat = 0
      · rw [h0]; exact .inr ⟨wz _ _, wz _ _⟩
      · rw [if_neg h0, if_neg h0]; exact .inl rfl
theorem RZ.addl {x y : Option Nat} (h : RZ x y) (z : Option Nat) : RZ (fop .add x z) (fop .add y z) := by
  rcases h with rfl | ⟨a, b⟩
  · exact .inl rfl
  · exact zr_add z a b
theorem RZ.add {x y z u : Option Nat} (h : RZ x y) (g : RZ z u) : RZ (fop .add x z) (fop .add y u) := by
  refine (h.addl z).trans ?_
  rw [fop_add_comm y z, fop_add_comm y u]
  exact g.addl y
theorem sg_neg (s : Bool) (m u : Nat) : Ieee.signed (!s) m u = -Ieee.signed s m u := by cases s <;> simp [Ieee.signed]
theorem add_ng {x y : Option Nat} (hx : W64 x) (hy : W64 y) : RZ (fop .add (nO x) (nO y)) (nO (fop .add x y)) := by
  cases x with
  | none => exact .inl rfl
  | some a =>
  cases y with
  | none => exact .inl rfl
  | some b =>
    show RZ (fop .add (some (ng a)) (some (ng b))) _
    rw [fadd_def, fadd_def, read_ng (hx a rfl), read_ng (hy b rfl)]
    cases Ieee.double.read a with
    | nan _ _ => cases Ieee.double.read b <;> exact .inl rfl
    | infinity s =>
      cases Ieee.double.read b with
      | nan _ _ => exact .inl rfl
      | infinity t =>
        simp only [Ieee.Datum.sum, Ieee.Datum.opposite]
        by_cases h : s = t
        · subst h
          rw [if_pos rfl, if_pos rfl]
          exact .inl (congrArg some (write_opp (.infinity s) rfl))
        · rw [if_neg h, if_neg (by cases s <;> cases t <;> simp_all)]; exact .inl rfl
      | number _ _ _ => exact .inl (congrArg some (write_opp (.infinity s) rfl))
    | number s m i =>
      cases Ieee.double.read b with
      | nan _ _ => exact .inl rfl
      | infinity t => exact .inl (congrArg some (write_opp (.infinity t) rfl))
      | number t n j =>
        simp only [Ieee.Datum.sum, Ieee.Datum.opposite, sg_neg, ← Int.neg_add]
        generalize hT : Ieee.signed s m (i - min i j).toNat + Ieee.signed t n (j - min i j).toNat = total
        by_cases h0 : total = 0
        · subst h0; exact .inr ⟨wz _ _, zr_nO (wz _ _)⟩
        · rw [if_neg h0, if_neg (by omega), Int.natAbs_neg, show decide (-total < 0) = !decide (total < 0) by by_cases q : total < 0 <;> simp [q] <;> omega]
          exact .inl (congrArg some (write_opp (.number (decide (total < 0)) total.natAbs (min i j)) rfl))

end Go.Proofs.Ytiloleochmdfoaa
