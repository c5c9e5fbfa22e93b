/-
  A map of five numbers, laid and read.
-/
import Derived.Test.YtjghhgapacnpeaaMatF
import Derived.Test.YtjghhgapacnpeaaMatE
import Derived.Maps.OwnSet
import Derived.Maps.AppendAt
namespace Go.Proofs.Ytjghhgapacnpeaa
open Go.RowKit Go.Maps
attribute [local irreducible] World.setCell

set_option linter.unusedSimpArgs false
set_option linter.unusedVariables false

theorem law3 : Keyed Try.prog 3 := int_keyed Try.underlying3
theorem zero3 (w : World) : (zeroValue 3).run Try.prog w = .ok (.int .i64 0) w := by kernel_rfl
def D0 : DataW Unit := .map []
def D5 : DataW Unit := ((((D0.put (.int .i64 3) (.lit (.int .i64 1))).put (.int .i64 2) (.lit (.int .i64 6))).put (.int .i64 1) (.lit (.int .i64 4))).put (.int .i64 0) (.lit (.int .i64 3))).put (.int .i64 (-1)) (.lit (.int .i64 2))
theorem five_runs (w : World) : ∃ v1 v2 v3 v4 v5 : World, (Instr.mapUpdate 65 (.map (some w.heap.size)) (.int .i64 3) (.int .i64 1)).run Try.prog (w.alloc (.map #[] 0)) = .ok () v1 ∧ (Instr.mapUpdate 65 (.map (some w.heap.size)) (.int .i64 2) (.int .i64 6)).run Try.prog v1 = .ok () v2 ∧
    (Instr.mapUpdate 65 (.map (some w.heap.size)) (.int .i64 1) (.int .i64 4)).run Try.prog v2 = .ok () v3 ∧ (Instr.mapUpdate 65 (.map (some w.heap.size)) (.int .i64 0) (.int .i64 3)).run Try.prog v3 = .ok () v4 ∧
    (Instr.mapUpdate 65 (.map (some w.heap.size)) (.int .i64 (-1)) (.int .i64 2)).run Try.prog v4 = .ok () v5 ∧ v5.ownsMap Try.prog 3 (plainElem Try.prog 3) w.heap.size 5 D5 ∧ (w.alloc (.map #[] 0)).grownBy v5 (some w.heap.size) := by
  have ht := Try.underlying65
  have n0 : (w.alloc (.map #[] 0)).ownsMap Try.prog 3 (plainElem Try.prog 3) w.heap.size 0 D0 := World.ownsMap_made _ _ _ _
  obtain ⟨v1, h1, n1, r1⟩ := n0.update law3 ht (by decide) (keyOf_int_mk Try.underlying3 (a := 3) (by decide)) (plainElem_int Try.underlying3 (a := 1) (by decide))
  obtain ⟨v2, h2, n2, r2⟩ := n1.update law3 ht (by decide) (keyOf_int_mk Try.underlying3 (a := 2) (by decide)) (plainElem_int Try.underlying3 (a := 6) (by decide))
  obtain ⟨v3, h3, n3, r3⟩ := n2.update law3 ht (by decide) (keyOf_int_mk Try.underlying3 (a := 1) (by decide)) (plainElem_int Try.underlying3 (a := 4) (by decide))
  obtain ⟨v4, h4, n4, r4⟩ := n3.update law3 ht (by decide) (keyOf_int_mk Try.underlying3 (a := 0) (by decide)) (plainElem_int Try.underlying3 (a := 3) (by decide))
  obtain ⟨v5, h5, n5, r5⟩ := n4.update law3 ht (by decide) (keyOf_int_mk Try.underlying3 (a := -1) (by decide)) (plainElem_int Try.underlying3 (a := 2) (by decide))
  exact ⟨v1, v2, v3, v4, v5, h1, h2, h3, h4, h5, n5, ((r1.trans r2).trans r3).trans (r4.trans r5)⟩
theorem at3 : D5.atKey (.int .i64 3) (.lit (.int .i64 0)) = .lit (.int .i64 1) := by kernel_rfl
theorem at2 : D5.atKey (.int .i64 2) (.lit (.int .i64 0)) = .lit (.int .i64 6) := by kernel_rfl
theorem at1 : D5.atKey (.int .i64 1) (.lit (.int .i64 0)) = .lit (.int .i64 4) := by kernel_rfl
theorem at0 : D5.atKey (.int .i64 0) (.lit (.int .i64 0)) = .lit (.int .i64 3) := by kernel_rfl
theorem atm : D5.atKey (.int .i64 (-1)) (.lit (.int .i64 0)) = .lit (.int .i64 2) := by kernel_rfl
theorem has3 : Maps.has D5 (.int .i64 3) = true := by kernel_rfl
theorem has2 : Maps.has D5 (.int .i64 2) = true := by kernel_rfl
theorem has1 : Maps.has D5 (.int .i64 1) = true := by kernel_rfl
theorem has0 : Maps.has D5 (.int .i64 0) = true := by kernel_rfl
theorem hasm : Maps.has D5 (.int .i64 (-1)) = true := by kernel_rfl
theorem look5_run {w : World} {b : Nat} (hown : w.ownsMap Try.prog 3 (plainElem Try.prog 3) b 5 D5) (k v : Int) (wk : (Lit.int .i64 k).wf = true)
    (hat : D5.atKey (.int .i64 k) (.lit (.int .i64 0)) = .lit (.int .i64 v)) (hh : Maps.has D5 (.int .i64 k) = true) : (Instr.lookup 65 (.map (some b)) (.int .i64 k) true).run Try.prog w = .ok (.tuple #[.int .i64 v, .bool true]) w := by
  obtain ⟨x, ps, hrun, hv⟩ := hown.look_ok law3 Try.underlying65 (zero3 w) (plainElem_int Try.underlying3 (by decide)) (keyOf_int_mk Try.underlying3 wk)
  obtain ⟨c, rfl, hc, _⟩ := plainElem_int_inv Try.underlying3 hv
  rw [hat] at hc
  simp only [Prod.mk.injEq] at hc
  have h1 := hc.1
  injection h1 with h1
  injection h1 with _ h1
  rw [hrun, hh, h1]
theorem power_k (m : Mt) (n : Nat) (k : Int) (v : Bool) (hk : (n : Int) = k) (hn : n ≤ 6) (hv : powB m n = v) (w : World) : Calls Try.prog 30 #[.agg #[.int .i64 m.p00, .int .i64 m.p01, .int .i64 m.p02, .int .i64 m.p10, .int .i64 m.p11, .int .i64 m.p12, .int .i64 m.p20, .int .i64 m.p21, .int .i64 m.p22], .int .i64 k] w fun e w' => e = .returned (.bool v) ∧ Below w.heap.size w w' := by
  subst hk; subst hv; exact power_any m n w hn

end Go.Proofs.Ytjghhgapacnpeaa
