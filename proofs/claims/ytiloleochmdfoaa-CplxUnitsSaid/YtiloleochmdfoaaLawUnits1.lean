/-
  The law CplxUnits where there is a unit.
-/
import Derived.Test.YtiloleochmdfoaaLawUnits0
namespace Go.Proofs.Ytiloleochmdfoaa
open Go.RowKit
attribute [local irreducible] World.setCell
set_option linter.unusedSimpArgs false
set_option linter.unusedVariables false

/-- A part of the law's loop: gone by, or at its end. -/
def POk (x : Nat) : Prop := (FloatKind.f64.format.order x 0 != some Ordering.eq) = false ∨ ((FloatKind.f64.format.order x 0 != some Ordering.eq) = true ∧ (FloatKind.f64.format.order (x % 9223372036854775808) (pr (-400)) == some Ordering.lt) = false ∧ (FloatKind.f64.format.order (x % 9223372036854775808) (pr 400) == some Ordering.gt) = false)
def PBad (x : Nat) : Prop := (FloatKind.f64.format.order x 0 != some Ordering.eq) = true ∧ ((FloatKind.f64.format.order (x % 9223372036854775808) (pr (-400)) == some Ordering.lt) = true ∨ ((FloatKind.f64.format.order (x % 9223372036854775808) (pr (-400)) == some Ordering.lt) = false ∧ (FloatKind.f64.format.order (x % 9223372036854775808) (pr 400) == some Ordering.gt) = true))
set_option maxHeartbeats 8000000 in
set_option maxRecDepth 100000 in
theorem units_law (A B n : Int) (a b u v m S off s2 t2 r2 : Nat) (w : World) (ha : a < 18446744073709551616) (hb : b < 18446744073709551616) (HO : ∀ w, Calls Try.prog 13 #[.agg #[.int .u64 A, .int .u64 B]] w fun e w' => e = .returned (.complex .f64 a b) ∧ Below w.heap.size w w') (F : UF a b u v m S off s2 t2 r2)
    (ways : PBad a ∨ (POk a ∧ (PBad b ∨ (POk b ∧ (n < -300 ∨ 300 < n ∨ (-300 ≤ n ∧ n ≤ 300 ∧ ∃ a1 b1 m1, UG a b u v m (pr n) a1 b1 m1)))))) :
    Calls Try.prog 10 #[.agg #[.int .u64 A, .int .u64 B], .int .i64 n] w fun e w' => e = .returned (.bool true) ∧ Below w.heap.size w w' := by
  have HOf := Lib.hid HO; have HF := Lib.hid F; have HW := Lib.hid ways
  clear HO F ways
  go_enter Try.func10, Try.ntmps10
  go_wp2_with fail
  refine (awake_any _).mono ?_
  rintro e w1 ⟨rfl, hb1⟩
  have hz1 := hb1.size
  simp only [World.size_alloc] at hz1
  have cc0 : w1.cell? ⟨w.heap.size, 0, none⟩ = some (.int .u64 A) := (hb1.cell (p := ⟨w.heap.size, 0, none⟩) (by simp)).trans (by go_simp)
  have cc1 : w1.cell? ⟨w.heap.size, 1, none⟩ = some (.int .u64 B) := (hb1.cell (p := ⟨w.heap.size, 1, none⟩) (by simp)).trans (by go_simp)
  have BB := Lib.hid (show Below w.heap.size w w1 from Below.trans (show Below w.heap.size w (w.alloc (.cells #[.int .u64 A, .int .u64 B] 23)) from (by repeat (first | assumption | exact Below.refl _ _ | refine below_drewN ?_ _ | refine below_fw ?_ _ _ _ | refine below_sw ?_ _ | refine Below.drew ?_ | refine Below.alloc ?_ (by first | (simp; done) | (simp; omega) | omega) _ | refine Below.setCell ?_ (by first | (simp; done) | (simp; omega) | omega) _))) (hb1.mono (by simp)))
  clear hb1
  go_wp2_with fail
  refine (HOf.out _).mono ?_
  rintro e w2 ⟨rfl, hb2⟩
  have B2 := Lib.hid (BB.out.trans (hb2.mono (by omega)))
  have hz2 : w.heap.size < w2.heap.size := by have := hb2.size; omega
  clear hb2 cc0 cc1 BB hz1
  go_wp2_with fail
  refine (HF.out.unit _).mono ?_
  rintro e w3 ⟨rfl, hb3⟩
  have B3 := Lib.hid (B2.out.trans (hb3.mono (by omega)))
  have hz3 : w.heap.size < w3.heap.size := by have := hb3.size; omega
  clear hb3 B2 hz2
  go_wp2_with fail
  refine (HF.out.abs2 _).mono ?_
  rintro e w4 ⟨rfl, hb4⟩
  have B4 := Lib.hid (B3.out.trans (hb4.mono (by omega)))
  have hz4 : w.heap.size < w4.heap.size := by have := hb4.size; omega
  clear hb4 B3 hz3
  have f1 : fr .sub S 4607182418800017408 w4 = off := (HF.out.f1 w4).1
  have g1 : fw .sub S 4607182418800017408 w4 = w4 := (HF.out.f1 w4).2
  have c1 := HF.out.c1
  have c2 := HF.out.c2
  go_wp2_with fail
  refine (Ldexp_one (-45) (by decide) _).mono ?_
  rintro e w' ⟨rfl, rfl⟩
  go_wp2_with fail
  refine (Ldexp_one (-45) (by decide) _).mono ?_
  rintro e w' ⟨rfl, rfl⟩
  have s1 := HF.out.g1
  have s2' := HF.out.g2
  have lu := HF.out.lu
  have lv := HF.out.lv
  go_wp2_with (first | (go_at_call 22; refine (signbit_any _ _ (by assumption)).mono ?_; rintro e w' ⟨rfl, rfl⟩) | fail)
  refine (HF.out.abs _).mono ?_
  rintro e w5 ⟨rfl, hb5⟩
  have B5 := Lib.hid (B4.out.trans (hb5.mono (by omega)))
  have hz5 : w.heap.size < w5.heap.size := by have := hb5.size; omega
  clear hb5 B4 hz4 f1 g1 c1 c2 s1 s2' lu lv
  have f2 : fr .add (a % 9223372036854775808) (b % 9223372036854775808) w5 = s2 := (HF.out.f2 w5).1
  have g2 : fw .add (a % 9223372036854775808) (b % 9223372036854775808) w5 = w5 := (HF.out.f2 w5).2
  have f3 : fr .mul s2 (pr (-50)) w5 = t2 := (HF.out.f3 w5).1
  have g3 : fw .mul s2 (pr (-50)) w5 = w5 := (HF.out.f3 w5).2
  have f4 : fr .add s2 t2 w5 = r2 := (HF.out.f4 w5).1
  have g4 : fw .add s2 t2 w5 = w5 := (HF.out.f4 w5).2
  have c3 := HF.out.c3
  have c4 := HF.out.c4
  have c5 := HF.out.c5
  go_wp2_with (first | (go_at_call 48; refine (mabs_any _ _ (by assumption)).mono ?_; rintro e w' ⟨rfl, rfl⟩) | (go_at_call 47; refine (Ldexp_one (-50) (by decide) _).mono ?_; rintro e w' ⟨rfl, rfl⟩) | fail)
  refine wp_loop_rounds 3 ?_
  clear f2 g2 f3 g3 f4 g4 c3 c4 c5
  rw [rounds_succ]
  rcases HW.out with ⟨z1, z2⟩ | ⟨z, HW2⟩
  · rcases z2 with z2 | ⟨z2, z3⟩
    all_goals
      go_wp2_with (first | (go_at_call 48; refine (mabs_any _ _ (by assumption)).mono ?_; rintro e w' ⟨rfl, rfl⟩) | (go_at_call 47; with_reducible refine (Ldexp_one (-400) (by decide) _).mono ?_; rintro e w' ⟨rfl, rfl⟩) | (go_at_call 47; with_reducible refine (Ldexp_one 400 (by decide) _).mono ?_; rintro e w' ⟨rfl, rfl⟩) | fail)
      go_ret
      exact ⟨rfl, by have Q5 := B5.out; exact (by repeat (first | assumption | exact Below.refl _ _ | refine below_drewN ?_ _ | refine below_fw ?_ _ _ _ | refine below_sw ?_ _ | refine Below.drew ?_ | refine Below.alloc ?_ (by first | (simp; done) | (simp; omega) | omega) _ | refine Below.setCell ?_ (by first | (simp; done) | (simp; omega) | omega) _))⟩
  · have HW3 := Lib.hid HW2
    clear HW2 HW
    rcases z with z1 | ⟨z1, z2, z3⟩
    all_goals
      go_wp2_with (first | (go_at_call 48; refine (mabs_any _ _ (by assumption)).mono ?_; rintro e w' ⟨rfl, rfl⟩) | (go_at_call 47; with_reducible refine (Ldexp_one (-400) (by decide) _).mono ?_; rintro e w' ⟨rfl, rfl⟩) | (go_at_call 47; with_reducible refine (Ldexp_one 400 (by decide) _).mono ?_; rintro e w' ⟨rfl, rfl⟩) | fail)
      clear z1
      (try clear z2)
      (try clear z3)
      rw [rounds_succ]
      rcases HW3.out with ⟨z1, z2⟩ | ⟨z, HW4⟩
      · rcases z2 with z2 | ⟨z2, z3⟩
        all_goals
          go_wp2_with (first | (go_at_call 48; refine (mabs_any _ _ (by assumption)).mono ?_; rintro e w' ⟨rfl, rfl⟩) | (go_at_call 47; with_reducible refine (Ldexp_one (-400) (by decide) _).mono ?_; rintro e w' ⟨rfl, rfl⟩) | (go_at_call 47; with_reducible refine (Ldexp_one 400 (by decide) _).mono ?_; rintro e w' ⟨rfl, rfl⟩) | fail)
          go_ret
          exact ⟨rfl, by have Q5 := B5.out; exact (by repeat (first | assumption | exact Below.refl _ _ | refine below_drewN ?_ _ | refine below_fw ?_ _ _ _ | refine below_sw ?_ _ | refine Below.drew ?_ | refine Below.alloc ?_ (by first | (simp; done) | (simp; omega) | omega) _ | refine Below.setCell ?_ (by first | (simp; done) | (simp; omega) | omega) _))⟩
      · have HW5 := Lib.hid HW4
        clear HW4 HW3
        rcases z with z1 | ⟨z1, z2, z3⟩
        all_goals
          go_wp2_with (first | (go_at_call 48; refine (mabs_any _ _ (by assumption)).mono ?_; rintro e w' ⟨rfl, rfl⟩) | (go_at_call 47; with_reducible refine (Ldexp_one (-400) (by decide) _).mono ?_; rintro e w' ⟨rfl, rfl⟩) | (go_at_call 47; with_reducible refine (Ldexp_one 400 (by decide) _).mono ?_; rintro e w' ⟨rfl, rfl⟩) | fail)
          clear z1
          (try clear z2)
          (try clear z3)
          rw [rounds_succ]
          rcases HW5.out with y1 | y1 | ⟨y1, y2, a1, b1, m1, hg⟩
          · go_wp2
            go_ret
            exact ⟨rfl, by have Q5 := B5.out; exact (by repeat (first | assumption | exact Below.refl _ _ | refine below_drewN ?_ _ | refine below_fw ?_ _ _ _ | refine below_sw ?_ _ | refine Below.drew ?_ | refine Below.alloc ?_ (by first | (simp; done) | (simp; omega) | omega) _ | refine Below.setCell ?_ (by first | (simp; done) | (simp; omega) | omega) _))⟩
          · have y0 : ¬ n < -300 := by omega
            go_wp2
            go_ret
            exact ⟨rfl, by have Q5 := B5.out; exact (by repeat (first | assumption | exact Below.refl _ _ | refine below_drewN ?_ _ | refine below_fw ?_ _ _ _ | refine below_sw ?_ _ | refine Below.drew ?_ | refine Below.alloc ?_ (by first | (simp; done) | (simp; omega) | omega) _ | refine Below.setCell ?_ (by first | (simp; done) | (simp; omega) | omega) _))⟩
          · have G := Lib.hid hg
            clear hg HW5
            go_wp2_with fail
            refine (Ldexp_one n (by omega) _).mono ?_
            rintro e w' ⟨rfl, rfl⟩
            go_wp2_with fail
            refine (G.out.scale _).mono ?_
            rintro e w6 ⟨rfl, hb6⟩
            have B6 := Lib.hid (B5.out.trans (Below.trans (show Below w.heap.size w5 (w5.alloc (.cells #[.float .f64 a, .float .f64 b] 29)) from (Below.refl _ _).alloc (by omega) _) (hb6.mono (by simp; omega))))
            have hz6 : w.heap.size < w6.heap.size := by have := hb6.size; simp at this; omega
            clear hb6 B5 hz5
            go_wp2_with fail
            refine (G.out.unit _).mono ?_
            rintro e w7 ⟨rfl, hb7⟩
            have B7 := Lib.hid (B6.out.trans (hb7.mono (by omega)))
            have hz7 : w.heap.size < w7.heap.size := by have := hb7.size; omega
            clear hb7 B6 hz6
            have ss : (samev u u && samev v v) = true := by rw [samev_of rfl, samev_of rfl]; rfl
            go_wp2_with fail
            refine (Same_any u v u v _).mono ?_
            rintro e w' ⟨rfl, rfl⟩
            rw [ss]
            go_wp2_with fail
            refine (G.out.scale _).mono ?_
            rintro e w8 ⟨rfl, hb8⟩
            have B8 := Lib.hid (B7.out.trans (hb8.mono (by omega)))
            have hz8 : w.heap.size < w8.heap.size := by have := hb8.size; omega
            clear hb8 B7 hz7
            go_wp2_with fail
            refine (G.out.abs _).mono ?_
            rintro e w9 ⟨rfl, hb9⟩
            have B9 := Lib.hid (B8.out.trans (hb9.mono (by omega)))
            clear hb9 B8 hz8
            have f5 : fr .mul (pr n) m w9 = m1 := (G.out.f5 w9).1
            have g5 : fw .mul (pr n) m w9 = w9 := (G.out.f5 w9).2
            have c6 := G.out.c6
            go_wp2
            go_ret
            exact ⟨rfl, B9.out⟩

end Go.Proofs.Ytiloleochmdfoaa
