/-
  The law CplxQuarters, walked: it returns true.
-/
import Derived.Test.YtiloleochmdfoaaCxL
namespace Go.Proofs.Ytiloleochmdfoaa
open Go.RowKit
attribute [local irreducible] World.setCell

set_option linter.unusedSimpArgs false
set_option linter.unusedVariables false

attribute [local go_sem] ng_def
@[go_sem] theorem run_neg_fl {P : Program} (b : Nat) (w : World) : (Op.unary .neg (.float .f64 b)).run P w = .ok (.float .f64 (ng b)) w := rfl
set_option maxHeartbeats 400000 in
theorem MulB_any (a b c d : Nat) (w : World) :
    Calls Try.prog 15 #[.complex .f64 a b, .complex .f64 c d] w fun e w' => (∃ r i : Nat, e = .returned (.complex .f64 r i) ∧ (r < 18446744073709551616 ∧ i < 18446744073709551616) ∧ cn r = fop .sub (fop .mul (cn a) (cn c)) (fop .mul (cn b) (cn d)) ∧ cn i = fop .add (fop .mul (cn a) (cn d)) (fop .mul (cn b) (cn c))) ∧ Below w.heap.size w w' := by
  go_enter Try.func15, Try.ntmps15
  go_wp2
  go_ret
  refine ⟨⟨_, _, rfl, ⟨fr_lt _ _ _ _, fr_lt _ _ _ _⟩, ?_, ?_⟩, ?_⟩
  · simp only [cn_fr]
  · simp only [cn_fr]
  · repeat (first | exact Below.refl _ _ | assumption | exact Below.alloc (Below.refl _ _) (Nat.le_refl _) _ | refine Below.setCell ?_ (by first | (simp; done) | (simp; omega) | omega) _ | refine below_drewN ?_ _ | refine below_fw ?_ _ _ _ | refine below_sw ?_ _ | refine Below.alloc ?_ (by first | (simp; done) | (simp; omega) | omega) _ | refine Below.trans ?_ (Below.mono (by assumption) (by first | (simp; done) | (simp; omega) | omega)))

set_option maxHeartbeats 3200000 in
theorem quarters_any (A B C D : Int) (w : World) (hA : A < 18446744073709551616) (hB : B < 18446744073709551616) (hC : C < 18446744073709551616) (hD : D < 18446744073709551616):
    Calls Try.prog 3 #[.agg #[.int .u64 A, .int .u64 B], .agg #[.int .u64 C, .int .u64 D]] w fun e w' => e = .returned (.bool true) ∧ Below w.heap.size w w' := by
  go_enter Try.func3, Try.ntmps3
  go_wp2_with fail
  refine (awake_any _).mono ?_
  rintro e w1 ⟨rfl, hb1⟩
  obtain ⟨hc1, hf1⟩ := bcell hb1
  have hz1 := hb1.size
  try simp at hz1
  have z1_0 : w.heap.size < w1.heap.size := by omega
  have z1_1 : w.heap.size + 1 < w1.heap.size := by omega
  go_wp2
  refine region_all (by kernel_rfl) (by kernel_rfl) ?_
  repeat (go_big_quiet_step ((go_at_call 13; exact held_of _ (Nat.le_refl _) (of_any _ _ _))))
  refine wpQuiet_nil ?_
  rintro x1 ⟨⟨w0, hbx1⟩, rfl⟩
  obtain ⟨hcx1, hfx1⟩ := bcell hbx1
  have hzx1 := hbx1.size
  try simp at hzx1
  have zx1_0 : w.heap.size < x1.heap.size := by omega
  have zx1_1 : w.heap.size + 1 < x1.heap.size := by omega
  obtain ⟨a, ea⟩ : ∃ x, x = A.toNat := ⟨_, rfl⟩
  obtain ⟨b, eb⟩ : ∃ x, x = B.toNat := ⟨_, rfl⟩
  obtain ⟨c, ec⟩ : ∃ x, x = C.toNat := ⟨_, rfl⟩
  obtain ⟨d, ed⟩ : ∃ x, x = D.toNat := ⟨_, rfl⟩
  rw [← ea, ← eb, ← ec, ← ed]
  have ha : a < 18446744073709551616 := by omega
  have hb : b < 18446744073709551616 := by omega
  have hc : c < 18446744073709551616 := by omega
  have hd : d < 18446744073709551616 := by omega
  clear ea eb ec ed
  cases hf : (finv a && finv b)
  · go_wp2_with fail
    refine (Finite_any a b _ ha hb).mono ?_
    rintro e w' ⟨rfl, rfl⟩
    rw [hf]
    go_wp2
    go_ret
    refine ⟨rfl, ?_⟩
    repeat (first | exact Below.refl _ _ | assumption | exact Below.alloc (Below.refl _ _) (Nat.le_refl _) _ | refine Below.setCell ?_ (by first | (simp; done) | (simp; omega) | omega) _ | refine below_drewN ?_ _ | refine below_fw ?_ _ _ _ | refine below_sw ?_ _ | refine Below.alloc ?_ (by first | (simp; done) | (simp; omega) | omega) _ | refine Below.trans ?_ (Below.mono (by assumption) (by first | (simp; done) | (simp; omega) | omega)))
  · go_wp2_with fail
    refine (Finite_any a b _ ha hb).mono ?_
    rintro e w' ⟨rfl, rfl⟩
    rw [hf]
    cases hg : (finv c && finv d)
    · go_wp2_with fail
      refine (Finite_any c d _ hc hd).mono ?_
      rintro e w' ⟨rfl, rfl⟩
      rw [hg]
      go_wp2
      go_ret
      refine ⟨rfl, ?_⟩
      repeat (first | exact Below.refl _ _ | assumption | exact Below.alloc (Below.refl _ _) (Nat.le_refl _) _ | refine Below.setCell ?_ (by first | (simp; done) | (simp; omega) | omega) _ | refine below_drewN ?_ _ | refine below_fw ?_ _ _ _ | refine below_sw ?_ _ | refine Below.alloc ?_ (by first | (simp; done) | (simp; omega) | omega) _ | refine Below.trans ?_ (Below.mono (by assumption) (by first | (simp; done) | (simp; omega) | omega)))
    · go_wp2_with fail
      refine (Finite_any c d _ hc hd).mono ?_
      rintro e w' ⟨rfl, rfl⟩
      rw [hg]
      obtain ⟨f1, f2⟩ := Bool.and_eq_true_iff.1 hf
      have fa := finv_fin ha f1
      have fb := finv_fin hb f2
      go_wp2_with fail
      refine (Mul_any a b 0 4607182418800017408 _).mono ?_
      rintro e w2 ⟨⟨r2, i2, rfl, er2, ei2⟩, hb2⟩
      have hz2 := hb2.size
      obtain ⟨q1, q2, fr2, fi2⟩ := quarter fa fb er2 ei2
      have k1 := order_RZ q1 fb.ng.nan
      have k2 := order_RZ q2 fa.nan
      go_wp2_with fail
      refine (Mul_any r2 i2 0 4607182418800017408 _).mono ?_
      rintro e w3 ⟨⟨r3, i3, rfl, er3, ei3⟩, hb3⟩
      have hz3 := hb3.size
      obtain ⟨q3, q4, fr3, fi3⟩ := quarter fr2 fi2 er3 ei3
      go_wp2_with fail
      refine (Mul_any r3 i3 0 4607182418800017408 _).mono ?_
      rintro e w4 ⟨⟨r4, i4, rfl, er4, ei4⟩, hb4⟩
      have hz4 := hb4.size
      obtain ⟨q5, q6, fr4, fi4⟩ := quarter fr3 fi3 er4 ei4
      go_wp2_with fail
      refine (Mul_any r4 i4 0 4607182418800017408 _).mono ?_
      rintro e w5 ⟨⟨r5, i5, rfl, er5, ei5⟩, hb5⟩
      have hz5 := hb5.size
      obtain ⟨q7, q8, fr5, fi5⟩ := quarter fr4 fi4 er5 ei5
      have n1 : RZ (some r5) (some a) := by
        refine q7.trans ((RZ.neg (q6.trans q3)).trans ?_)
        show RZ (some (ng (ng i2))) _
        rw [ng_ng]; exact q2
      have n2 : RZ (some i5) (some b) := by
        refine q8.trans (q5.trans ((RZ.neg (q4.trans q1)).trans ?_))
        show RZ (some (ng (ng b))) _
        rw [ng_ng]; exact RZ.refl _
      have k3 := order_RZ n1 fa.nan
      have k4 := order_RZ n2 fb.nan
      go_wp2_with fail
      refine (MulB_any a b c d _).mono ?_
      rintro e w6 ⟨⟨r6, i6, rfl, ⟨hr6, hi6⟩, er6, ei6⟩, hb6⟩
      have hz6 := hb6.size
      go_wp2_with fail
      refine (Mul_any r2 i2 c d _).mono ?_
      rintro e w7 ⟨⟨r7, i7, rfl, er7, ei7⟩, hb7⟩
      have hz7 := hb7.size
      have t1 := turned_re (W64.cn hb) (by rw [cn_some fr2.nan, cn_some fb.nan]; exact q1) (by rw [cn_some fi2.nan, cn_some fa.nan]; exact q2) ei6 er7
      have t2 := turned_im (W64.cn hb) (by rw [cn_some fr2.nan, cn_some fb.nan]; exact q1) (by rw [cn_some fi2.nan, cn_some fa.nan]; exact q2) er6 ei7
      cases hh : (finv r6 && finv i6)
      · go_wp2_with fail
        refine (Finite_any r6 i6 _ hr6 hi6).mono ?_
        rintro e w' ⟨rfl, rfl⟩
        rw [hh]
        go_wp2
        go_ret
        refine ⟨rfl, ?_⟩
        repeat (first | exact Below.refl _ _ | assumption | exact Below.alloc (Below.refl _ _) (Nat.le_refl _) _ | refine Below.setCell ?_ (by first | (simp; done) | (simp; omega) | omega) _ | refine below_drewN ?_ _ | refine below_fw ?_ _ _ _ | refine below_sw ?_ _ | refine Below.alloc ?_ (by first | (simp; done) | (simp; omega) | omega) _ | refine Below.trans ?_ (Below.mono (by assumption) (by first | (simp; done) | (simp; omega) | omega)))
      · go_wp2_with fail
        refine (Finite_any r6 i6 _ hr6 hi6).mono ?_
        rintro e w' ⟨rfl, rfl⟩
        rw [hh]
        obtain ⟨f5, f6⟩ := Bool.and_eq_true_iff.1 hh
        have g5 := finv_fin hr6 f5
        have g6 := finv_fin hi6 f6
        rw [cn_some g6.nan] at t1
        rw [cn_some g5.nan] at t2
        have k5 := order_RZ (some_of t1) g6.ng.nan
        have k6 := order_RZ (some_of t2) g5.nan
        go_wp2
        go_ret
        refine ⟨rfl, ?_⟩
        repeat (first | exact Below.refl _ _ | assumption | exact Below.alloc (Below.refl _ _) (Nat.le_refl _) _ | refine Below.setCell ?_ (by first | (simp; done) | (simp; omega) | omega) _ | refine below_drewN ?_ _ | refine below_fw ?_ _ _ _ | refine below_sw ?_ _ | refine Below.alloc ?_ (by first | (simp; done) | (simp; omega) | omega) _ | refine Below.trans ?_ (Below.mono (by assumption) (by first | (simp; done) | (simp; omega) | omega)))

end Go.Proofs.Ytiloleochmdfoaa
