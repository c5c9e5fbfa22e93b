/-
  Ldexp of 1.
-/
import Derived.Test.YtiloleochmdfoaaCxU2
namespace Go.Proofs.Ytiloleochmdfoaa
open Go.RowKit
attribute [local irreducible] World.setCell
set_option linter.unusedSimpArgs false
set_option linter.unusedVariables false

theorem q_unique {M N t tt s1 q t' tt' s1' q' : Nat} {r r' : Rat} (h : QOf M N t tt s1 q r) (k : QOf M N t' tt' s1' q' r') : q = q' := by
  have a1 := h.e1; rw [k.e1] at a1
  have b1 := wd_inj (Option.some.inj a1)
  subst b1
  have a2 := h.e2; rw [k.e2] at a2
  have b2 := wd_inj (Option.some.inj a2)
  subst b2
  have a3 := h.e3; rw [k.e3] at a3
  have b3 := wd_inj (Option.some.inj a3)
  subst b3
  have a4 := h.e4; rw [k.e4] at a4
  exact (wd_inj (Option.some.inj a4)).symm
set_option maxHeartbeats 400000 in
theorem normalize_one (w : World) : Calls Try.prog 73 #[.float .f64 4607182418800017408] w fun e w' => e = .returned (.tuple #[.float .f64 4607182418800017408, .int .i64 0]) ∧ w = w' := by
  have k1 : (FloatKind.f64.format.order 4607182418800017408 4503599627370496 == some Ordering.lt) = false := by decide +kernel
  go_enter Try.func73, Try.ntmps73
  go_wp2_with (go_at_call 48; refine (mabs_any _ _ (by decide)).mono ?_; rintro e w' ⟨rfl, rfl⟩)
  go_ret2
  exact ⟨rfl, rfl⟩
set_option maxHeartbeats 1600000 in
theorem ldexp_one (k : Int) (hk : -1022 ≤ k ∧ k ≤ 1023) (w : World) : Calls Try.prog 70 #[.float .f64 4607182418800017408, .int .i64 k] w fun e w' => e = .returned (.float .f64 (pr k)) ∧ w = w' := by
  have k1 : zerop 4607182418800017408 = false := by decide +kernel
  have k2 : infp 4607182418800017408 = false := by decide +kernel
  have k3 : isN 4607182418800017408 = false := by decide +kernel
  obtain ⟨h1, h2⟩ := hk
  have b1 : bits .and .i64 1023 2047 = 1023 := by decide +kernel
  have b2 : bits .andNot .u64 4607182418800017408 9218868437227405312 = 0 := by decide +kernel
  have b3 : wrap64 0 = 0 := by decide +kernel
  go_enter Try.func70, Try.ntmps70
  go_wp2_with (first | (go_at_call 53; refine (isinf0_any _ _ (by decide)).mono ?_; rintro e w' ⟨rfl, rfl⟩) | (go_at_call 54; refine (isnan_any _ _).mono ?_; rintro e w' ⟨rfl, rfl⟩) | (go_at_call 73; refine (normalize_one _).mono ?_; rintro e w' ⟨rfl, rfl⟩))
  go_ret
  have e : (bits .or .u64 0 ((k + 1023) * 4503599627370496)).toNat = pr k := by
    rw [u64_or _ _ (by omega) (by omega) (by omega) (by omega)]
    unfold pr
    show ((((0 : Int).toNat ||| ((k + 1023) * 4503599627370496).toNat : Nat) : Int)).toNat = _
    rw [show (0 : Int).toNat = 0 from rfl, Nat.zero_or]
    omega
  have e2 := fr_of (op := .mul) (x := 4607182418800017408) (y := pr k) (z := pr k) (by
    have := mul_pow (s := false) (r := pr k) (r' := pr k) (k := 0) (by decide) (by unfold pr; omega) (by unfold pr; omega) (by unfold pr; omega) (by unfold pr; omega) (by omega)
    exact this) w
  rw [e, e2.1, e2.2]
  exact ⟨rfl, rfl⟩
theorem Ldexp_one (k : Int) (hk : -1022 ≤ k ∧ k ≤ 1023) (w : World) : Calls Try.prog 47 #[.float .f64 4607182418800017408, .int .i64 k] w fun e w' => e = .returned (.float .f64 (pr k)) ∧ w = w' := by
  have HL := Lib.hid (fun w => ldexp_one k hk w)
  clear hk
  go_enter Try.func47, Try.ntmps47
  go_wp2_with (go_at_call 70; refine (HL.out _).mono ?_; rintro e w' ⟨rfl, rfl⟩)
  go_ret
  exact ⟨rfl, rfl⟩

end Go.Proofs.Ytiloleochmdfoaa
