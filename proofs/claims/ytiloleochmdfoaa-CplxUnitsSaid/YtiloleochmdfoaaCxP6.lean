/-
  Plain law: the magnitude of a complex number and its unit, by absolute errors.
-/
import Derived.Test.YtiloleochmdfoaaCxP5
namespace Go.Proofs.Ytiloleochmdfoaa
open Ieee
/-- Two numbers that differ by e at most. -/
structure Cl (x y e : Rat) : Prop where
  l : x ≤ y + e
  r : y ≤ x + e
theorem Cl.trans {x y z e f : Rat} (h : Cl x y e) (k : Cl y z f) : Cl x z (e + f) := ⟨by have := h.l; have := k.l; grind, by have := h.r; have := k.r; grind⟩
theorem Cl.mono {x y e f : Rat} (h : Cl x y e) (hf : e ≤ f) : Cl x y f := ⟨by have := h.l; grind, by have := h.r; grind⟩
theorem Cl.symm {x y e : Rat} (h : Cl x y e) : Cl y x e := ⟨h.r, h.l⟩
theorem Cl.sq {x y e B : Rat} (h : Cl x y e) (hx : 0 ≤ x) (hy : 0 ≤ y) (he : 0 ≤ e) (hB : x + y ≤ B) : Cl (x * x) (y * y) (e * B) := by
  have h0 : 0 ≤ x + y := by grind
  have h1 : x - y ≤ e := by have := h.l; grind
  have h2 : y - x ≤ e := by have := h.r; grind
  have k1 := Rat.mul_le_mul_of_nonneg_right h1 h0
  have k2 := Rat.mul_le_mul_of_nonneg_right h2 h0
  have k3 := Rat.mul_le_mul_of_nonneg_left hB he
  constructor <;> grind
/-- The unit of the last place at 1. -/
def dd : Rat := pw (-52)
theorem dd_pos : 0 < dd := pw_pos _
theorem dd_small : dd ≤ 1 / 100000 := by decide +kernel
theorem half_dd : pw (-53) = dd / 2 := by decide +kernel
theorem quarter_dd : pw (-54) = dd / 4 := by decide +kernel
theorem twice_dd : pw (-51) = 2 * dd := by decide +kernel
theorem eta_dd : pw (-1075) ≤ dd / 16 := by
  have h : pw (-1075) ≤ pw (-56) := pw_le (by decide)
  have h2 : pw (-56) = dd / 16 := by decide +kernel
  grind
theorem Rn.cl {V : Rat} {r : Nat} (h : Rn V r) {B : Rat} (hB : V ≤ B) : Cl (mag r) V (B * dd / 2 + dd / 16) := by
  have h1 := h.up; have h2 := h.dn
  rw [half_dd] at h1 h2
  have := eta_dd
  have := dd_pos
  have k : V * dd ≤ B * dd := Rat.mul_le_mul_of_nonneg_right hB (Rat.le_of_lt dd_pos)
  constructor <;> grind
theorem mag_one' : mag (pr 0) = 1 := by decide +kernel
theorem mag_two : mag (pr 1) = 2 := by decide +kernel
def rhalf : Nat := 4609434218613702656
theorem mag_rhalf : mag rhalf = 3 / 2 := by decide +kernel
theorem cut_id {r : Nat} (h : r < 9218868437227405312) : cutI r = r := by unfold cutI; omega
theorem le_of_mul {a b c : Rat} (h : a * c ≤ b * c) (hc : 0 < c) : a ≤ b := by
  refine Rat.not_lt.1 fun k => ?_
  have := Rat.mul_lt_mul_of_pos_right k hc
  grind
/-- The root of 1 and the square of the quotient: what Abs reckons with. -/
structure QOf (M N t tt s1 q : Nat) (r : Rat) : Prop where
  lt : t < 9218868437227405312
  ltt : tt < 9218868437227405312
  ls : s1 < 9218868437227405312
  lq : q < 9218868437227405312
  e1 : double.div (wd false N) (wd false M) = some (wd false t)
  e2 : double.mul (wd false t) (wd false t) = some (wd false tt)
  e3 : double.add (wd false (pr 0)) (wd false tt) = some (wd false s1)
  e4 : double.sqrt (wd false s1) = some (wd false q)
  rm : r * mag M = mag N
  r0 : 0 ≤ r
  r1 : r ≤ 1
  q1 : 1 ≤ mag q
  q2 : mag q ≤ 3 / 2
  near : Cl (mag q * mag q) (1 + r * r) (16 * dd)
  small : r ≤ pw (-28) → s1 = pr 0
theorem q_of {M N : Nat} (hM : M < 9218868437227405312) (hM0 : M ≠ 0) (hN : N ≤ M) : ∃ t tt s1 q r, QOf M N t tt s1 q r := by
  have mp := mag_pos hM0
  obtain ⟨r, hr⟩ : ∃ r, r = mag N / mag M := ⟨_, rfl⟩
  have hrm : r * mag M = mag N := by rw [hr]; exact Rat.div_mul_cancel (by grind)
  have mn := mag_nonneg N
  have mnm := mag_mono hN
  have hr0 : 0 ≤ r := le_of_mul (c := mag M) (by rw [hrm]; grind) mp
  have hr1 : r ≤ 1 := le_of_mul (c := mag M) (by rw [hrm]; grind) mp
  have d0 := dd_pos; have d1 := dd_small
  obtain ⟨t, W, e1, nt, w0, w1, w2, _⟩ := div_wd (s := false) (t := false) (a := N) (b := M) (by omega) hM hM0
  rw [quarter_dd] at w1 w2
  have rd : r * dd ≤ dd := by have := Rat.mul_le_mul_of_nonneg_right hr1 (Rat.le_of_lt d0); grind
  have rd0 : 0 ≤ r * dd := Rat.mul_nonneg hr0 (Rat.le_of_lt d0)
  have x1 : W ≤ r + r * dd / 4 := le_of_mul (c := mag M) (by rw [← hrm] at w1; grind) mp
  have x2 : r ≤ W + r * dd / 4 := le_of_mul (c := mag M) (by rw [← hrm] at w2; grind) mp
  have cW : Cl W r (dd / 4) := ⟨by grind, by grind⟩
  have hW1 : W ≤ 1 + dd / 4 := by grind
  have lt : t < 9218868437227405312 := by
    have := nt.le (s := pr 1) (by rw [mag_two]; grind)
    have : pr 1 = 4611686018427387904 := by decide
    omega
  rw [cut_id lt] at e1
  have dq : dd * dd ≤ dd / 100000 := by have := Rat.mul_le_mul_of_nonneg_right d1 (Rat.le_of_lt d0); grind
  have ct : Cl (mag t) r dd := ((nt.cl hW1).trans cW).mono (by grind)
  have t0 := mag_nonneg t
  have t1 : mag t ≤ 1 + dd := by have := ct.l; grind
  have ct2 := ct.sq t0 hr0 (Rat.le_of_lt d0) (B := 3) (by grind)
  have r2 : r * r ≤ 1 := by have := Rat.mul_le_mul_of_nonneg_right hr1 hr0; grind
  have r20 : 0 ≤ r * r := Rat.mul_nonneg hr0 hr0
  obtain ⟨tt, e2, ntt, _⟩ := mul_wd (s := false) (t := false) lt lt
  have htt2 : mag t * mag t ≤ 1 + 3 * dd := by have := ct2.l; grind
  have ltt : tt < 9218868437227405312 := by
    have := ntt.le (s := pr 1) (by rw [mag_two]; grind)
    have : pr 1 = 4611686018427387904 := by decide
    omega
  rw [cut_id ltt, Bool.xor_self] at e2
  have ctt : Cl (mag tt) (r * r) (4 * dd) := ((ntt.cl htt2).trans ct2).mono (by grind)
  have tt0 := mag_nonneg tt
  obtain ⟨s1, e3, ns⟩ := add_pos (a := pr 0) (b := tt) (by decide) ltt
  rw [mag_one'] at ns
  have hs1 : 1 + mag tt ≤ 2 + 4 * dd := by have := ctt.l; grind
  have ls : s1 < 9218868437227405312 := by
    have h4 : mag (pr 2) = 4 := by decide +kernel
    have := ns.le (s := pr 2) (by rw [h4]; grind)
    have : pr 2 = 4616189618054758400 := by decide
    omega
  rw [cut_id ls] at e3
  have cs : Cl (mag s1) (1 + r * r) (6 * dd) := by
    have a := ns.cl hs1
    have b : Cl (1 + mag tt) (1 + r * r) (4 * dd) := ⟨by have := ctt.l; grind, by have := ctt.r; grind⟩
    exact (a.trans b).mono (by grind)
  have s1ge : pr 0 ≤ s1 := ns.ge (by rw [mag_one']; grind)
  have s1m : 1 ≤ mag s1 := by have := mag_mono s1ge; rw [mag_one'] at this; exact this
  have s1le : mag s1 ≤ 2 + 6 * dd := by have := cs.l; grind
  obtain ⟨q, W2, e4, nq, v1, v2, v3⟩ := sqrt_wd ls s1m
  rw [twice_dd] at v2 v3
  have sd : mag s1 * dd ≤ (2 + 6 * dd) * dd := Rat.mul_le_mul_of_nonneg_right s1le (Rat.le_of_lt d0)
  have cW2 : Cl (W2 * W2) (1 + r * r) (11 * dd) := ⟨by have := cs.l; grind, by have := cs.r; grind⟩
  have W2le : W2 ≤ 3 / 2 := by
    refine Rat.not_lt.1 fun k => ?_
    have k1 : 3 / 2 * W2 < W2 * W2 := Rat.mul_lt_mul_of_pos_right k (by grind)
    have := cW2.l
    grind
  have lq : q ≤ rhalf := nq.le (by rw [mag_rhalf]; exact W2le)
  have lq' : q < 9218868437227405312 := by unfold rhalf at lq; omega
  rw [cut_id lq'] at e4
  have q1 : 1 ≤ mag q := by have := mag_mono (nq.ge (s := pr 0) (by rw [mag_one']; exact v1)); rw [mag_one'] at this; exact this
  have q2 : mag q ≤ 3 / 2 := by have := mag_mono lq; rw [mag_rhalf] at this; exact this
  have cq : Cl (mag q) W2 dd := (nq.cl W2le).mono (by grind)
  have cq2 := cq.sq (by grind) (by grind) (Rat.le_of_lt d0) (B := 3) (by grind)
  refine ⟨t, tt, s1, q, r, lt, ltt, ls, lq', e1, e2, e3, e4, hrm, hr0, hr1, q1, q2, (cq2.trans cW2).mono (by grind), fun hs => ?_⟩
  have p28 : pw (-27) = 2 * pw (-28) := by rw [← pw_succ]; congr 1
  have p28p := pw_pos (-28)
  have rdr : r * dd ≤ r * 1 := Rat.mul_le_mul_of_nonneg_left (by grind) hr0
  have hW27 : W ≤ mag (pr (-27)) := by rw [mag_pr (by decide), p28]; rw [Rat.mul_one] at rdr; grind
  have ht27 : mag t ≤ pw (-27) := by have := mag_mono (nt.le hW27); rw [mag_pr (by decide)] at this; exact this
  have p54 : pw (-27) * pw (-27) = dd / 4 := by rw [← pw_add]; exact quarter_dd
  have htt : mag t * mag t ≤ mag (pr (-54)) := by
    rw [mag_pr (by decide), quarter_dd, ← p54]
    exact Rat.le_trans (Rat.mul_le_mul_of_nonneg_left ht27 t0) (Rat.mul_le_mul_of_nonneg_right ht27 (Rat.le_of_lt (pw_pos _)))
  have htt4 : mag tt ≤ dd / 4 := by have := mag_mono (ntt.le htt); rw [mag_pr (by decide), quarter_dd] at this; exact this
  refine Nat.le_antisymm (Nat.le_of_not_lt fun c => ?_) s1ge
  have lo := ns.lo (by omega)
  have m1 := mag_mono (show pr 0 ≤ s1 - 1 by omega)
  have m2 := mag_mono (show pr 0 + 1 ≤ s1 by omega)
  have m3 : mag (pr 0 + 1) = 1 + dd := by decide +kernel
  rw [mag_one'] at m1
  rw [m3] at m2
  grind
/-- A part over the magnitude, squared. -/
theorem part_sq (s : Bool) {P m : Nat} (hm : m < 9218868437227405312) (hm0 : m ≠ 0) (hP : P ≤ m) : ∃ u w c, u < 9218868437227405312 ∧ w < 9218868437227405312 ∧ double.div (wd s P) (wd false m) = some (wd s u) ∧ double.mul (wd s u) (wd s u) = some (wd false w) ∧ c * mag m = mag P ∧ 0 ≤ c ∧ c ≤ 1 ∧ Cl (mag w) (c * c) (4 * dd) ∧
    u = (if mant P = 0 then 0 else rg (qm (mant P) (mant m)) (plc P - plc m + qe (mant P) (mant m))) := by
  have mp := mag_pos hm0
  obtain ⟨c, hc⟩ : ∃ c, c = mag P / mag m := ⟨_, rfl⟩
  have hcm : c * mag m = mag P := by rw [hc]; exact Rat.div_mul_cancel (by grind)
  have mn := mag_nonneg P
  have mnm := mag_mono hP
  have hr0 : 0 ≤ c := le_of_mul (c := mag m) (by rw [hcm]; grind) mp
  have hr1 : c ≤ 1 := le_of_mul (c := mag m) (by rw [hcm]; grind) mp
  have d0 := dd_pos; have d1 := dd_small
  obtain ⟨t, W, e1, nt, w0, w1, w2, er⟩ := div_wd (s := s) (t := false) (a := P) (b := m) (by omega) hm hm0
  rw [quarter_dd] at w1 w2
  have rd : c * dd ≤ dd := by have := Rat.mul_le_mul_of_nonneg_right hr1 (Rat.le_of_lt d0); grind
  have rd0 : 0 ≤ c * dd := Rat.mul_nonneg hr0 (Rat.le_of_lt d0)
  have x1 : W ≤ c + c * dd / 4 := le_of_mul (c := mag m) (by rw [← hcm] at w1; grind) mp
  have x2 : c ≤ W + c * dd / 4 := le_of_mul (c := mag m) (by rw [← hcm] at w2; grind) mp
  have cW : Cl W c (dd / 4) := ⟨by grind, by grind⟩
  have hW1 : W ≤ 1 + dd / 4 := by grind
  have p1 : pr 1 = 4611686018427387904 := by decide
  have lt : t < 9218868437227405312 := by
    have := nt.le (s := pr 1) (by rw [mag_two]; grind)
    omega
  rw [cut_id lt, Bool.xor_false] at e1
  have dq : dd * dd ≤ dd / 100000 := by have := Rat.mul_le_mul_of_nonneg_right d1 (Rat.le_of_lt d0); grind
  have ct : Cl (mag t) c dd := ((nt.cl hW1).trans cW).mono (by grind)
  have t0 := mag_nonneg t
  have t1 : mag t ≤ 1 + dd := by have := ct.l; grind
  have ct2 := ct.sq t0 hr0 (Rat.le_of_lt d0) (B := 3) (by grind)
  have r2 : c * c ≤ 1 := by have := Rat.mul_le_mul_of_nonneg_right hr1 hr0; grind
  obtain ⟨tt, e2, ntt, _⟩ := mul_wd (s := s) (t := s) lt lt
  have htt2 : mag t * mag t ≤ 1 + 3 * dd := by have := ct2.l; grind
  have ltt : tt < 9218868437227405312 := by
    have := ntt.le (s := pr 1) (by rw [mag_two]; grind)
    omega
  rw [cut_id ltt, Bool.xor_self] at e2
  exact ⟨t, tt, c, lt, ltt, e1, e2, hcm, hr0, hr1, ((ntt.cl htt2).trans ct2).mono (by grind), er⟩
theorem mag_norm_ge {M : Nat} (h : 4503599627370496 ≤ M) : pw (-1022) ≤ mag M := by
  have h1 := mag_mono h
  have h2 : mag 4503599627370496 = pw (-1022) := by decide +kernel
  grind
/-- The magnitude: near M q; between the greater part and the sum; no overflow where M is below 2^1000. -/
theorem mag_of {M N t tt s1 q : Nat} {r : Rat} (h : QOf M N t tt s1 q r) (hM : M < 9218868437227405312) (hM0 : M ≠ 0) : ∃ m, double.mul (wd false M) (wd false q) = some (wd false (cutI m)) ∧ M ≤ m ∧ m = rg (mant M * mant q) (plc M + plc q) ∧
    (∀ s, Rn (mag M + mag N) s → m ≤ s) ∧ (M < pr 1000 → m < 9218868437227405312) ∧ (36028797018963968 ≤ M → m < 9218868437227405312 → ∃ z, z * mag M = mag m ∧ 1 ≤ z ∧ Cl (z * z) (1 + r * r) (20 * dd)) := by
  have mp := mag_pos hM0
  have d0 := dd_pos; have d1 := dd_small
  obtain ⟨m, e, nm, em⟩ := mul_wd (s := false) (t := false) hM h.lq
  rw [Bool.xor_self] at e
  have k1 : mag M ≤ mag M * mag q := by have := Rat.mul_le_mul_of_nonneg_left h.q1 (Rat.le_of_lt mp); grind
  have k2 : mag M * mag q ≤ mag M * (3 / 2) := Rat.mul_le_mul_of_nonneg_left h.q2 (Rat.le_of_lt mp)
  have hge : M ≤ m := nm.ge k1
  refine ⟨m, e, hge, em, fun s hs => ?_, fun hb => ?_, fun hn hlt => ?_⟩
  · by_cases c : r ≤ pw (-28)
    · have hs1 := h.small c
      have hq : q = pr 0 := by
        have e4 := h.e4
        rw [hs1] at e4
        have e5 : double.sqrt (wd false (pr 0)) = some (wd false (pr 0)) := by decide +kernel
        rw [e5] at e4
        have := Option.some.inj e4
        rw [wd_eq, wd_eq] at this
        simpa using this.symm
      rw [hq, mag_one', Rat.mul_one] at nm
      rw [snap nm]
      exact hs.ge (by have := mag_nonneg N; grind)
    · have c' : pw (-28) < r := Rat.not_le.1 c
      refine nm.lt_le hs ?_
      have hq : mag q < 1 + r := by
        refine Rat.not_le.1 fun k => ?_
        have a1 : (1 + r) * (1 + r) ≤ mag q * mag q := Rat.le_trans (Rat.mul_le_mul_of_nonneg_left k (by have := h.r0; grind)) (Rat.mul_le_mul_of_nonneg_right k (mag_nonneg q))
        have a2 := h.near.l
        have a3 : pw (-28) = 16777216 * dd := by decide +kernel
        grind
      have := Rat.mul_lt_mul_of_pos_left hq mp
      have := h.rm
      grind
  · have h3 : mag (pr 1000) = pw 1000 := mag_pr (by decide)
    have h4 : mag (pr 1001) = pw 1001 := mag_pr (by decide)
    have h5 : pw 1001 = 2 * pw 1000 := pw_succ 1000
    have h6 := mag_strict hb
    have := nm.le (s := pr 1001) (by rw [h4, h5]; grind)
    have : pr 1001 = 9115285645797883904 := by decide
    omega
  · obtain ⟨z, hz⟩ : ∃ z, z = mag m / mag M := ⟨_, rfl⟩
    have hzm : z * mag M = mag m := by rw [hz]; exact Rat.div_mul_cancel (by grind)
    have z1 : 1 ≤ z := le_of_mul (c := mag M) (by rw [hzm]; have := mag_mono hge; grind) mp
    refine ⟨z, hzm, z1, ?_⟩
    have b1 : pw (-1015) ≤ mag M := by
      have h1 := mag_mono hn
      have h2 : mag (36028797018963968) = pw (-1015) := by decide +kernel
      grind
    have b2 : pw (-1075) ≤ mag M * dd / 16 := by
      have h1 : pw (-1075) ≤ pw (-1075 + 4) := pw_le (by decide)
      have h2 : pw (-1015) * dd / 16 = pw (-1015 + -52) / 16 := by rw [pw_add]; rfl
      have h3 : pw (-1015 + -52) = 256 * pw (-1075) := by decide +kernel
      have h4 := Rat.mul_le_mul_of_nonneg_right b1 (Rat.le_of_lt d0)
      have := pw_pos (-1075)
      grind
    have u1 := nm.up; have u2 := nm.dn
    rw [half_dd] at u1 u2
    have md : mag M * mag q * dd ≤ mag M * (3 / 2) * dd := Rat.mul_le_mul_of_nonneg_right k2 (Rat.le_of_lt d0)
    have c1 : z ≤ mag q + dd := le_of_mul (c := mag M) (by rw [hzm]; grind) mp
    have c3 : (z + dd) * mag M = mag m + dd * mag M := by rw [← hzm]; grind
    have c2 : mag q ≤ z + dd := le_of_mul (c := mag M) (by rw [c3]; grind) mp
    have cz : Cl z (mag q) dd := ⟨c1, c2⟩
    have := h.q1; have := h.q2
    exact ((cz.sq (by grind) (by grind) (Rat.le_of_lt d0) (B := 4) (by grind)).trans h.near).mono (by grind)
end Go.Proofs.Ytiloleochmdfoaa
