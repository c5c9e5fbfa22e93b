/-
  The law CplxUnits: it returns true.
-/
import Derived.Test.YtiloleochmdfoaaLawUnits1
namespace Go.Proofs.Ytiloleochmdfoaa
open Go.RowKit
attribute [local irreducible] World.setCell
set_option linter.unusedSimpArgs false
set_option linter.unusedVariables false

theorem part_way (s : Bool) {X : Nat} (hX : X < 9218868437227405312) : (Mid X ∧ POk (wd s X)) ∨ PBad (wd s X) := by
  have pm : pr (-400) = 2805742567851819008 := by decide
  have pp : pr 400 = 6408622269748215808 := by decide
  have e0 : (FloatKind.f64.format.order (wd s X) 0 != some Ordering.eq) = !decide (X = 0) := by
    show (!(FloatKind.f64.format.order (wd s X) 0 == some Ordering.eq)) = _
    have := zerop_wd (s := s) hX
    unfold zerop at this
    rw [this]
  have e1 : FloatKind.f64.format.order X (pr (-400)) = some (compare (X : Int) (pr (-400) : Int)) := order_nat (by omega) (by omega)
  have e2 : FloatKind.f64.format.order X (pr 400) = some (compare (X : Int) (pr 400 : Int)) := order_nat (by omega) (by omega)
  unfold POk PBad
  rw [e0, wd_mod (by omega), e1, e2]
  by_cases z : X = 0
  · left
    exact ⟨.inl z, .inl (by rw [decide_eq_true z]; rfl)⟩
  · have z' : (!decide (X = 0)) = true := by rw [decide_eq_false z]; rfl
    by_cases c1 : X < pr (-400)
    · right
      exact ⟨z', .inl (by rw [cmp_lt (by omega)]; rfl)⟩
    · by_cases c2 : pr 400 < X
      · right
        exact ⟨z', .inr ⟨not_lt_of (by omega), by rw [cmp_gt (by omega)]; rfl⟩⟩
      · left
        exact ⟨.inr (by omega), .inr ⟨z', not_lt_of (by omega), not_gt_of (by omega)⟩⟩
theorem units_any (A B n : Int) (w : World) (hA : 0 ≤ A ∧ A < 18446744073709551616) (hB : 0 ≤ B ∧ B < 18446744073709551616) :
    Calls Try.prog 10 #[.agg #[.int .u64 A, .int .u64 B], .int .i64 n] w fun e w' => e = .returned (.bool true) ∧ Below w.heap.size w w' := by
  have ha : A.toNat < 18446744073709551616 := by omega
  have hb : B.toNat < 18446744073709551616 := by omega
  have fa := finv_is ha
  have fb := finv_is hb
  cases hf : (finv A.toNat && finv B.toNat) with
  | false =>
    refine units_nan A B n w hA hB hf ?_
    cases hz : (zerop A.toNat && zerop B.toNat) with
    | false => rfl
    | true =>
      obtain ⟨z1, z2⟩ := Bool.and_eq_true_iff.1 hz
      rw [fa, fb, decide_eq_true (zerop_fin ha z1), decide_eq_true (zerop_fin hb z2)] at hf
      cases hf
  | true =>
    cases hz : (zerop A.toNat && zerop B.toNat) with
    | true => exact units_zero A B n w hA hB hf hz
    | false =>
      obtain ⟨f1, f2⟩ := Bool.and_eq_true_iff.1 hf
      rw [fa] at f1
      rw [fb] at f2
      have lX := of_decide_eq_true f1
      have lY := of_decide_eq_true f2
      have ea := word_is ha
      have eb := word_is hb
      have HO : ∀ w, Calls Try.prog 13 #[.agg #[.int .u64 A, .int .u64 B]] w fun e w' => e = .returned (.complex .f64 A.toNat B.toNat) ∧ Below w.heap.size w w' := fun w => of_any A B w
      generalize A.toNat = a at *
      generalize B.toNat = b at *
      generalize decide (9223372036854775808 ≤ a) = sa at ea
      generalize decide (9223372036854775808 ≤ b) = sb at eb
      generalize a % 9223372036854775808 = X at *
      generalize b % 9223372036854775808 = Y at *
      subst ea
      subst eb
      have h0 : max X Y ≠ 0 := by
        intro h
        rw [zerop_wd lX, zerop_wd lY, decide_eq_true (show X = 0 by omega), decide_eq_true (show Y = 0 by omega)] at hz
        cases hz
      obtain ⟨u, v, m, S, off, s2, t2, r2, F, K⟩ := uf_is sa sb lX lY h0
      refine units_law A B n _ _ u v m S off s2 t2 r2 w ha hb HO F ?_
      rcases part_way sa lX with ⟨mX, pX⟩ | pX
      · refine .inr ⟨pX, ?_⟩
        rcases part_way sb lY with ⟨mY, pY⟩ | pY
        · refine .inr ⟨pY, ?_⟩
          by_cases c1 : n < -300
          · exact .inl c1
          · by_cases c2 : 300 < n
            · exact .inr (.inl c2)
            · exact .inr (.inr ⟨by omega, by omega, K mX mY n ⟨by omega, by omega⟩⟩)
        · exact .inl pY
      · exact .inl pX

end Go.Proofs.Ytiloleochmdfoaa
