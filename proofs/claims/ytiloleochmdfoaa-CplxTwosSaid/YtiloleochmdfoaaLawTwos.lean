/-
  The law CplxTwos, walked: it returns true.
-/
import Derived.Test.YtiloleochmdfoaaCxG
namespace Go.Proofs.Ytiloleochmdfoaa
open Go.RowKit
attribute [local irreducible] World.setCell

set_option linter.unusedSimpArgs false
set_option linter.unusedVariables false

set_option maxHeartbeats 1600000 in
theorem twos_any (a b c d : Int) (w : World) :
    Calls Try.prog 6 #[.agg #[.int .u64 a, .int .u64 b], .agg #[.int .u64 c, .int .u64 d]] w fun e w' => e = .returned (.bool true) ∧ Below w.heap.size w w' := by
  go_enter Try.func6, Try.ntmps6
  go_wp2_with fail
  refine (awake_any _).mono ?_
  rintro e w1 ⟨rfl, hb1⟩
  obtain ⟨hc1, hf1⟩ := bcell hb1
  have hz1 := hb1.size
  try simp at hz1
  have z1_0 : w.heap.size < w1.heap.size := by omega
  have z1_1 : w.heap.size + 1 < w1.heap.size := by omega
  go_wp2
  refine region_all (by kernel_rfl) (by kernel_rfl) ?_
  repeat (go_big_quiet_step ((go_at_call 13; exact held_of _ (Nat.le_refl _) (of_any _ _ _))))
  refine wpQuiet_nil ?_
  rintro x1 ⟨⟨w0, hbx1⟩, rfl⟩
  obtain ⟨hcx1, hfx1⟩ := bcell hbx1
  have hzx1 := hbx1.size
  try simp at hzx1
  have zx1_0 : w.heap.size < x1.heap.size := by omega
  have zx1_1 : w.heap.size + 1 < x1.heap.size := by omega
  go_wp2_with fail
  refine (Same_any _ _ _ _ _).mono ?_
  rintro e w' ⟨rfl, rfl⟩
  go_wp2_with fail
  refine (rSame_any _ _ _ _ _).mono ?_
  rintro e w' ⟨rfl, rfl⟩
  go_wp2_with fail
  refine (Scale_any _ _ _ _).mono ?_
  rintro e w2 ⟨⟨r2, i2, rfl, er2, ei2⟩, hb2⟩
  have hz2 := hb2.size
  go_wp2_with fail
  refine (rScale_any _ _ _ _).mono ?_
  rintro e w3 ⟨⟨r3, i3, rfl, er3, ei3⟩, hb3⟩
  have hz3 := hb3.size
  have k3 := both (er2.trans er3.symm) (ei2.trans ei3.symm)
  go_wp2_with fail
  refine (rSame_any _ _ _ _ _).mono ?_
  rintro e w' ⟨rfl, rfl⟩
  rw [k3]
  go_wp2_with fail
  refine (Mul_any _ _ _ _ _).mono ?_
  rintro e w4 ⟨⟨r4, i4, rfl, er4, ei4⟩, hb4⟩
  have hz4 := hb4.size
  go_wp2_with fail
  refine (rMul_any _ _ _ _ _).mono ?_
  rintro e w5 ⟨⟨r5, i5, rfl, er5, ei5⟩, hb5⟩
  have hz5 := hb5.size
  have k5 := both (er4.trans er5.symm) (ei4.trans ei5.symm)
  go_wp2_with fail
  refine (rSame_any _ _ _ _ _).mono ?_
  rintro e w' ⟨rfl, rfl⟩
  rw [k5]
  go_wp2_with fail
  refine (Mul_any _ _ _ _ _).mono ?_
  rintro e w6 ⟨⟨r6, i6, rfl, er6, ei6⟩, hb6⟩
  have hz6 := hb6.size
  go_wp2_with fail
  refine (Mul_any _ _ _ _ _).mono ?_
  rintro e w7 ⟨⟨r7, i7, rfl, er7, ei7⟩, hb7⟩
  have hz7 := hb7.size
  have m1 : cn r6 = cn r7 := by rw [er6, er7, fop_mul_comm (cn c.toNat), fop_mul_comm (cn d.toNat)]
  have m2 : cn i6 = cn i7 := by rw [ei6, ei7, fop_add_comm, fop_mul_comm (cn c.toNat), fop_mul_comm (cn d.toNat)]
  have k7 := both m1 m2
  go_wp2_with fail
  refine (Same_any _ _ _ _ _).mono ?_
  rintro e w' ⟨rfl, rfl⟩
  rw [k7]
  go_wp2
  go_ret
  refine ⟨rfl, ?_⟩
  repeat (first | exact Below.refl _ _ | assumption | exact Below.alloc (Below.refl _ _) (Nat.le_refl _) _ | refine Below.setCell ?_ (by first | (simp; done) | (simp; omega) | omega) _ | refine below_drewN ?_ _ | refine below_fw ?_ _ _ _ | refine below_sw ?_ _ | refine Below.alloc ?_ (by first | (simp; done) | (simp; omega) | omega) _ | refine Below.trans ?_ (Below.mono (by assumption) (by first | (simp; done) | (simp; omega) | omega)))

end Go.Proofs.Ytiloleochmdfoaa
