/-
  Words modulo the prime: division of 128 bits.
-/
import Derived.Test.YtjmhnmlmnlefaaaNttA
namespace Go.Proofs.Ytjmhnmlmnlefaaa
open Go.RowKit Go.Lib
attribute [local irreducible] World.setCell
set_option linter.unusedSimpArgs false
set_option linter.unusedVariables false


/-- One digit of a long division by the prime: what the loop keeps. -/
structure J (h u q r : Int) : Prop where
  f0 : 0 ≤ q ∧ 0 ≤ r ∧ 0 ≤ u ∧ u < 4294967296
  f1 : 4294967295 * q + r = h
  f2 : q ≤ 4294967296
  f3 : r < 4294967296
  f4 : q = 4294967296 → r = 0
  f5 : 4294967296 * r + u < 18446744069414584321 + q
theorem J.start {h u : Int} (h0 : 0 ≤ h) (hh : h < 18446744069414584321) (u0 : 0 ≤ u) (hu : u < 4294967296) : J h u (h / 4294967295) (h % 4294967295) := by
  exact ⟨by omega, by omega, by omega, by omega, by omega, by omega⟩
/-- The digit found: what is left is the remainder. -/
structure JE (h u q r : Int) : Prop where
  f0 : 0 ≤ q ∧ 0 ≤ r ∧ 0 ≤ u ∧ u < 4294967296
  f1 : 4294967295 * q + r = h
  f2 : q ≤ 4294967296
  f3 : q ≤ 4294967296 * r + u
  f4 : 4294967296 * r + u < 18446744069414584321 + q
theorem J.stop {h u q r : Int} (j : J h u q r) (h2 : q ≤ 4294967296 * r + u) : JE h u q r := ⟨j.f0, j.f1, j.f2, h2, j.f5⟩
theorem J.pos {h u q r : Int} (j : J h u q r) (h1 : 4294967296 ≤ q ∨ 4294967296 * r + u < q) : 1 ≤ q := by
  obtain ⟨z, a, b, c, d, e⟩ := j
  omega
theorem J.next {h u q r : Int} (j : J h u q r) (h1 : 4294967296 ≤ q ∨ 4294967296 * r + u < q) (hl : r + 4294967295 < 4294967296) : J h u (q - 1) (r + 4294967295) := by
  obtain ⟨z, a, b, c, d, e⟩ := j
  exact ⟨by omega, by omega, by omega, by omega, by omega, by omega⟩
theorem J.leave {h u q r : Int} (j : J h u q r) (h1 : 4294967296 ≤ q ∨ 4294967296 * r + u < q) (hl : 4294967296 ≤ r + 4294967295) : JE h u (q - 1) (r + 4294967295) := by
  obtain ⟨z, a, b, c, d, e⟩ := j
  exact ⟨by omega, by omega, by omega, by omega, by omega⟩
theorem JE.word {h u q r : Int} (j : JE h u q r) (y : Int) (hy : y = 18446744069414584321) (h0 : 0 ≤ h) (hh : h < 18446744069414584321) :
    IntKind.u64.wrap (IntKind.u64.wrap (IntKind.u64.wrap (h * 4294967296) + u) - IntKind.u64.wrap (q * y)) = (h * 4294967296 + u) % 18446744069414584321 := by
  obtain ⟨z, a, b, c, d⟩ := j
  subst hy
  simp only [IntKind.wrap_u64]
  omega
theorem yn1 (y : Int) (hy : y = 18446744069414584321) : y / 4294967296 = 4294967295 := by omega
theorem mask (a : Int) (h0 : 0 ≤ a) (h1 : a < 18446744073709551616) : bits BinOp.and IntKind.u64 a 4294967295 = a % 4294967296 := by
  obtain ⟨n, rfl⟩ : ∃ n : Nat, a = n := ⟨a.toNat, by omega⟩
  rw [M64.maskN n (by omega)]; omega
theorem yn0 (y : Int) (hy : y = 18446744069414584321) : bits BinOp.and IntKind.u64 y 4294967295 = 1 := by
  rw [mask y (by omega) (by omega)]; omega
theorem un32 (hi lo : Int) (h0 : 0 ≤ hi) (h1 : hi < 18446744073709551616) (l0 : 0 ≤ lo) (h2 : lo < 18446744073709551616) : bits BinOp.or IntKind.u64 hi (lo / 18446744073709551616) = hi := by
  obtain ⟨n, rfl⟩ : ∃ n : Nat, hi = n := ⟨hi.toNat, by omega⟩
  rw [show lo / 18446744073709551616 = ((0 : Nat) : Int) by omega, bits_or_u64_nat n 0 (by omega) (by omega)]
  simp
theorem dq (h : Int) (h0 : 0 ≤ h) (hh : h < 18446744073709551616) : IntKind.u64.wrap (h.tdiv 4294967295) = h / 4294967295 := by
  rw [IntKind.wrap_u64, Int.tdiv_eq_ediv_of_nonneg h0]; omega
theorem dr (h : Int) (h0 : 0 ≤ h) (hh : h < 18446744073709551616) : IntKind.u64.wrap (h - h / 4294967295 * 4294967295) = h % 4294967295 := by
  simp only [IntKind.wrap_u64]; omega
theorem dw (h : Int) (h0 : 0 ≤ h) (hh : h < 18446744073709551616) : IntKind.u64.wrap (h / 4294967295 * 4294967295) = h / 4294967295 * 4294967295 := by
  simp only [IntKind.wrap_u64]; omega

theorem fin_rem (lo hi : Int) : ((hi * 4294967296 + lo / 4294967296) % 18446744069414584321 * 4294967296 + lo % 4294967296) % 18446744069414584321 = (hi * 18446744073709551616 + lo) % 18446744069414584321 := by omega
set_option maxHeartbeats 4000000 in
set_option maxRecDepth 100000 in
theorem div64_hi (hi lo y : Int) (w : World) (h0 : 0 < hi) (h1 : hi < 18446744069414584321) (l0 : 0 ≤ lo) (h2 : lo < 18446744073709551616) (hy : y = 18446744069414584321) :
    Calls Try.prog 64 #[.int .u64 hi, .int .u64 lo, .int .u64 y] w fun e w' => (∃ q : Int, e = .returned (.tuple #[.int .u64 q, .int .u64 ((hi * 18446744073709551616 + lo) % 18446744069414584321)])) ∧ w = w' := by
  have hyl : hi < y := by omega
  have hy1 : 9223372036854775808 ≤ y := by omega
  have hy2 : y ≤ 18446744073709551615 := by omega
  have hne : ¬ y = 0 := by omega
  have hnh : ¬ hi = 0 := by omega
  have HY := Lib.hid hy; clear hy
  go_enter Try.func64, Try.ntmps64
  go_wp2_with (go_at_call 66; refine (lz64 _ _ (by omega) (by omega)).mono ?_; rintro e w' ⟨rfl, rfl⟩)
  simp only [yn1 y HY.out, yn0 y HY.out, un32 hi lo (by omega) (by omega) l0 h2, mask lo l0 h2, dq hi (by omega) (by omega), dw hi (by omega) (by omega), dr hi (by omega) (by omega)]
  obtain ⟨u1, eu1⟩ : ∃ u, u = lo / 4294967296 := ⟨_, rfl⟩
  obtain ⟨u0, eu0⟩ : ∃ u, u = lo % 4294967296 := ⟨_, rfl⟩
  have hu1 : 0 ≤ u1 ∧ u1 < 4294967296 := by omega
  have hu0 : 0 ≤ u0 ∧ u0 < 4294967296 := by omega
  have j0 := Lib.hid (J.start (by omega) h1 hu1.1 hu1.2)
  rw [← eu1, ← eu0]
  have EU1 := Lib.hid eu1; have EU0 := Lib.hid eu0; clear eu1 eu0
  go_loop [15, 16] (fun a b => ∃ q r : Int, a = .int .u64 q ∧ b = .int .u64 r ∧ RowKit.Hid (J hi u1 q r)) (fun a _ => (RowKit.intOf a).toNat)
  case atStart => exact ⟨_, _, rfl, rfl, j0⟩
  case round =>
    obtain ⟨q, r, rfl, rfl, j⟩ := hrel
    have jq := j.out.f2
    have jr := j.out.f3
    have jz := j.out.f0
    go_wp2
    · go_round
      case rel => exact ⟨_, _, rfl, rfl, j.out.next (by first | assumption | exact Or.inl (by omega)) (by assumption)⟩
      case measure => have := j.out.pos (by first | assumption | exact Or.inl (by omega)); simp [RowKit.intOf]; omega
    · have je := j.out.stop (by omega)
      have jw := je.word y HY.out (by omega) h1
      clear je
      rw [jw]
      clear jw
      obtain ⟨R, eR⟩ : ∃ R, R = (hi * 4294967296 + u1) % 18446744069414584321 := ⟨_, rfl⟩
      have hR : 0 ≤ R ∧ R < 18446744069414584321 := by omega
      rw [← eR]
      have ER := Lib.hid eR; clear eR j jq jr jz
      simp only [dq R (by omega) (by omega), dw R (by omega) (by omega), dr R (by omega) (by omega)]
      have k0 := Lib.hid (J.start hR.1 hR.2 hu0.1 hu0.2)
      go_loop [18, 16] (fun a b => ∃ q r : Int, a = .int .u64 q ∧ b = .int .u64 r ∧ RowKit.Hid (J R u0 q r)) (fun a _ => (RowKit.intOf a).toNat)
      case atStart => exact ⟨_, _, rfl, rfl, k0⟩
      case round =>
        obtain ⟨q', r', rfl, rfl, j⟩ := hrel
        have jq := j.out.f2
        have jr := j.out.f3
        have jz := j.out.f0
        go_wp2
        · go_round
          case rel => exact ⟨_, _, rfl, rfl, j.out.next (by first | assumption | exact Or.inl (by omega)) (by assumption)⟩
          case measure => have := j.out.pos (by first | assumption | exact Or.inl (by omega)); simp [RowKit.intOf]; omega
        · have je := j.out.stop (by omega)
          have jw := je.word y HY.out hR.1 hR.2
          clear je
          go_ret2
          exact ⟨⟨_, by rw [jw, ER.out, EU0.out, EU1.out, fin_rem lo hi]; rfl⟩, rfl⟩
        · have je := j.out.leave (by first | assumption | exact Or.inl (by omega)) (by assumption)
          have jw := je.word y HY.out hR.1 hR.2
          clear je
          go_ret2
          exact ⟨⟨_, by rw [jw, ER.out, EU0.out, EU1.out, fin_rem lo hi]; rfl⟩, rfl⟩
        · go_round
          case rel => exact ⟨_, _, rfl, rfl, j.out.next (by first | assumption | exact Or.inl (by omega)) (by assumption)⟩
          case measure => have := j.out.pos (by first | assumption | exact Or.inl (by omega)); simp [RowKit.intOf]; omega
    · have je := j.out.leave (by first | assumption | exact Or.inl (by omega)) (by assumption)
      have jw := je.word y HY.out (by omega) h1
      clear je
      rw [jw]
      clear jw
      obtain ⟨R, eR⟩ : ∃ R, R = (hi * 4294967296 + u1) % 18446744069414584321 := ⟨_, rfl⟩
      have hR : 0 ≤ R ∧ R < 18446744069414584321 := by omega
      rw [← eR]
      have ER := Lib.hid eR; clear eR j jq jr jz
      simp only [dq R (by omega) (by omega), dw R (by omega) (by omega), dr R (by omega) (by omega)]
      have k0 := Lib.hid (J.start hR.1 hR.2 hu0.1 hu0.2)
      go_loop [18, 16] (fun a b => ∃ q r : Int, a = .int .u64 q ∧ b = .int .u64 r ∧ RowKit.Hid (J R u0 q r)) (fun a _ => (RowKit.intOf a).toNat)
      case atStart => exact ⟨_, _, rfl, rfl, k0⟩
      case round =>
        obtain ⟨q', r', rfl, rfl, j⟩ := hrel
        have jq := j.out.f2
        have jr := j.out.f3
        have jz := j.out.f0
        go_wp2
        · go_round
          case rel => exact ⟨_, _, rfl, rfl, j.out.next (by first | assumption | exact Or.inl (by omega)) (by assumption)⟩
          case measure => have := j.out.pos (by first | assumption | exact Or.inl (by omega)); simp [RowKit.intOf]; omega
        · have je := j.out.stop (by omega)
          have jw := je.word y HY.out hR.1 hR.2
          clear je
          go_ret2
          exact ⟨⟨_, by rw [jw, ER.out, EU0.out, EU1.out, fin_rem lo hi]; rfl⟩, rfl⟩
        · have je := j.out.leave (by first | assumption | exact Or.inl (by omega)) (by assumption)
          have jw := je.word y HY.out hR.1 hR.2
          clear je
          go_ret2
          exact ⟨⟨_, by rw [jw, ER.out, EU0.out, EU1.out, fin_rem lo hi]; rfl⟩, rfl⟩
        · go_round
          case rel => exact ⟨_, _, rfl, rfl, j.out.next (by first | assumption | exact Or.inl (by omega)) (by assumption)⟩
          case measure => have := j.out.pos (by first | assumption | exact Or.inl (by omega)); simp [RowKit.intOf]; omega
    · go_round
      case rel => exact ⟨_, _, rfl, rfl, j.out.next (by first | assumption | exact Or.inl (by omega)) (by assumption)⟩
      case measure => have := j.out.pos (by first | assumption | exact Or.inl (by omega)); simp [RowKit.intOf]; omega

end Go.Proofs.Ytjmhnmlmnlefaaa
