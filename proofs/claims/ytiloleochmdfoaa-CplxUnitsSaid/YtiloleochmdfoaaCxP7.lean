/-
  Plain law: the unit of a complex number lies near the circle; its parts keep their signs; powers of two change nothing.
-/
import Derived.Test.YtiloleochmdfoaaCxP6
namespace Go.Proofs.Ytiloleochmdfoaa
open Ieee
theorem sub_wd {s t : Bool} {a b : Nat} (ha : a < 9218868437227405312) (hb : b < 9218868437227405312) : double.sub (wd s a) (wd t b) = double.add (wd s a) (wd (!t) b) := by
  unfold Format.sub Format.add
  rw [read_wd ha, read_wd hb, read_wd hb]
  rfl
/-- What Unit reckons with: parts X, Y (the greater one neither small nor great), and what comes of them. -/
structure UOf (sa sb : Bool) (X Y t tt s1 q m U V : Nat) (r : Rat) : Prop where
  qo : QOf (max X Y) (min X Y) t tt s1 q r
  lm : m < 9218868437227405312
  m0 : m ≠ 0
  em : double.mul (wd false (max X Y)) (wd false q) = some (wd false m)
  rm : m = rg (mant (max X Y) * mant q) (plc (max X Y) + plc q)
  lU : U < 9218868437227405312
  lV : V < 9218868437227405312
  eU : double.div (wd sa X) (wd false m) = some (wd sa U)
  eV : double.div (wd sb Y) (wd false m) = some (wd sb V)
  rU : U = (if mant X = 0 then 0 else rg (qm (mant X) (mant m)) (plc X - plc m + qe (mant X) (mant m)))
  rV : V = (if mant Y = 0 then 0 else rg (qm (mant Y) (mant m)) (plc Y - plc m + qe (mant Y) (mant m)))
  near : ∃ w1 w2 S off sg, double.mul (wd sa U) (wd sa U) = some (wd false w1) ∧ double.mul (wd sb V) (wd sb V) = some (wd false w2) ∧ double.add (wd false w1) (wd false w2) = some (wd false S) ∧ S < 9218868437227405312 ∧ double.sub (wd false S) (wd false (pr 0)) = some (wd sg off) ∧ off ≤ pr (-45)
theorem unit_is (sa sb : Bool) {X Y : Nat} (h1 : 36028797018963968 ≤ max X Y) (h2 : max X Y < pr 1000) : ∃ t tt s1 q m U V r, UOf sa sb X Y t tt s1 q m U V r := by
  have p1000 : pr 1000 = 9110782046170513408 := by decide
  have hM : max X Y < 9218868437227405312 := by omega
  have hM0 : max X Y ≠ 0 := by omega
  have hN : min X Y ≤ max X Y := by omega
  obtain ⟨t, tt, s1, q, r, Q⟩ := q_of hM hM0 hN
  obtain ⟨m, em, mge, er, _, mfin, mz⟩ := mag_of Q hM hM0
  have lm := mfin h2
  obtain ⟨z, hz, z1, cz⟩ := mz h1 lm
  rw [cut_id lm] at em
  have m0 : m ≠ 0 := by omega
  obtain ⟨U, w1, c, lU, l1, eU, e1, hc, c0, c1, n1, rU⟩ := part_sq sa (P := X) lm m0 (by omega)
  obtain ⟨V, w2, d, lV, l2, eV, e2, hd, f0, f1, n2, rV⟩ := part_sq sb (P := Y) lm m0 (by omega)
  refine ⟨t, tt, s1, q, m, U, V, r, Q, lm, m0, em, er, lU, lV, eU, eV, rU, rV, w1, w2, ?_⟩
  have d0 := dd_pos; have d1 := dd_small
  have mp := mag_pos hM0
  -- c, d are 1 / z and r / z, in one order or the other
  have hzm : 0 < z := by grind
  have key : c * z * (c * z) + d * z * (d * z) = 1 + r * r := by
    have hcz : c * z * mag (max X Y) = mag X := by rw [← hc, ← hz]; grind
    have hdz : d * z * mag (max X Y) = mag Y := by rw [← hd, ← hz]; grind
    have hr := Q.rm
    have one : ∀ {x : Rat}, x * mag (max X Y) = mag (max X Y) → x = 1 := fun {x} h => by
      have a1 : x ≤ 1 := le_of_mul (c := mag (max X Y)) (by rw [h]; grind) mp
      have a2 : 1 ≤ x := le_of_mul (c := mag (max X Y)) (by rw [h]; grind) mp
      grind
    have same : ∀ {x y : Rat}, x * mag (max X Y) = y * mag (max X Y) → x = y := fun {x y} h => by
      have a1 : x ≤ y := le_of_mul (c := mag (max X Y)) (by rw [h]; exact Rat.le_refl) mp
      have a2 : y ≤ x := le_of_mul (c := mag (max X Y)) (by rw [h]; exact Rat.le_refl) mp
      grind
    rcases Nat.le_total X Y with c | c
    · rw [Nat.max_eq_right c] at hcz hdz hr one same
      rw [Nat.min_eq_left c] at hr
      have k1 := one hdz
      have k2 := same (hcz.trans hr.symm)
      rw [k1, k2]; grind
    · rw [Nat.max_eq_left c] at hcz hdz hr one same
      rw [Nat.min_eq_right c] at hr
      have k1 := one hcz
      have k2 := same (hdz.trans hr.symm)
      rw [k1, k2]; grind
  -- c² + d² near 1
  have hzz : 1 ≤ z * z := by have := Rat.mul_le_mul_of_nonneg_left z1 (Rat.le_of_lt hzm); grind
  have hs : (c * c + d * d) * (z * z) = 1 + r * r := by rw [← key]; grind
  have cs : Cl (c * c + d * d) 1 (20 * dd) := by
    have e20 : 20 * dd ≤ 20 * dd * (z * z) := by have := Rat.mul_le_mul_of_nonneg_left hzz (show 0 ≤ 20 * dd by grind); grind
    refine ⟨le_of_mul (c := z * z) ?_ (by grind), le_of_mul (c := z * z) ?_ (by grind)⟩
    · rw [hs]; have := cz.r; grind
    · have : (c * c + d * d + 20 * dd) * (z * z) = 1 + r * r + 20 * dd * (z * z) := by rw [← hs]; grind
      rw [this]; have := cz.l; grind
  obtain ⟨S, e3, nS⟩ := add_pos l1 l2
  have cw : Cl (mag w1 + mag w2) 1 (28 * dd) := ⟨by have := n1.l; have := n2.l; have := cs.l; grind, by have := n1.r; have := n2.r; have := cs.r; grind⟩
  have lS : S < 9218868437227405312 := by
    have := nS.le (s := pr 1) (by rw [mag_two]; have := cw.l; grind)
    have : pr 1 = 4611686018427387904 := by decide
    omega
  rw [cut_id lS] at e3
  have cS : Cl (mag S) 1 (30 * dd) := ((nS.cl (B := 2) (by have := cw.l; grind)).trans cw).mono (by grind)
  obtain ⟨off, W, sg, e4, nO, W0, hW⟩ := add_wd (s := false) (t := !false) (a := S) (b := pr 0) lS (by decide)
  have p45 : mag (pr (-45)) = 128 * dd := by decide +kernel
  have hoff : off ≤ pr (-45) := nO.le (by
    rw [p45]
    have e1 : sv false (mag S) + sv (!false) (mag (pr 0)) = mag S - 1 := by rw [mag_one']; unfold sv; simp; grind
    rw [e1] at hW
    have := cS.l; have := cS.r
    rcases hW with h | h <;> grind)
  have p45' : pr (-45) = 4404508001604567040 + 0 ∨ pr (-45) < 9218868437227405312 := .inr (by decide)
  have lo : off < 9218868437227405312 := by
    have : pr (-45) < 9218868437227405312 := by decide
    omega
  rw [cut_id lo] at e4
  exact ⟨S, off, sg, e1, e2, e3, lS, by rw [sub_wd lS (by decide)]; exact e4, hoff⟩
/-- Scaled parts. -/
theorem scale_is (s : Bool) {P : Nat} {k : Int} (hk : -1022 ≤ k ∧ k ≤ 1023) (hP : P < 9218868437227405312) : ∃ P', double.mul (wd false (pr k)) (wd s P) = some (wd s (cutI P')) ∧ Rn (pw k * mag P) P' := by
  have hpr : pr k < 9218868437227405312 := by unfold pr; omega
  obtain ⟨P', e, n, _⟩ := mul_wd (s := false) (t := s) (a := pr k) (b := P) hpr hP
  rw [mag_pr hk.1] at n
  exact ⟨P', by rw [e, Bool.false_xor], n⟩
end Go.Proofs.Ytiloleochmdfoaa
