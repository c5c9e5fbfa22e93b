/-
  cell: spacings.
-/
import Derived.Test.YtdhlkhockpblhaaRedH
import Derived.Test.YtdhlkhockpblhaaCelX1
import Derived.BigQuiet
namespace Go.Proofs.Ytdhlkhockpblhaa
open Go.RowKit
attribute [local irreducible] World.setCell

set_option linter.unusedSimpArgs false
set_option linter.unusedVariables false

theorem tdiv_b {N : Int} {g : Nat} (h : 0 ≤ N) (h1 : N < 9223372036854775808) : wrap64 (N.tdiv g) = N.tdiv g := by
  have a1 : N.tdiv g = N / g := Int.tdiv_eq_ediv_of_nonneg h
  have a2 : N / (g : Int) ≤ N := Int.ediv_le_self _ h
  have a3 : 0 ≤ N / (g : Int) := Int.ediv_nonneg h (by omega)
  rw [a1]; unfold wrap64; omega
set_option maxHeartbeats 1600000 in
set_option maxRecDepth 100000 in
theorem Spacing_ok (aa bb cc bc ac ab h0 h1 h2 j00 j01 j02 j10 j11 j12 j20 j21 j22 N D : Int) (w : World) (ck : checkC aa bb cc bc ac ab = 0) (kh0 : -512 ≤ h0 ∧ h0 ≤ 512) (kh1 : -512 ≤ h1 ∧ h1 ≤ 512) (kh2 : -512 ≤ h2 ∧ h2 ≤ 512) (PA : ∀ w : World, Calls Try.prog 64 #[.agg #[.int .i64 aa, .int .i64 bb, .int .i64 cc, .int .i64 bc, .int .i64 ac, .int .i64 ab]] w fun e w' => e = .returned (.agg #[.int .i64 j00, .int .i64 j01, .int .i64 j02, .int .i64 j10, .int .i64 j11, .int .i64 j12, .int .i64 j20, .int .i64 j21, .int .i64 j22]) ∧ Below w.heap.size w w') (eN : wrap64 (h0 * j00 * h0 + h0 * j01 * h1 + h0 * j02 * h2 + h1 * j10 * h0 + h1 * j11 * h1 + h1 * j12 * h2 + h2 * j20 * h0 + h2 * j21 * h1 + h2 * j22 * h2) = N) (eD : wrap64 (detP aa bb cc bc ac ab) = D) (hN : 0 ≤ N ∧ N < 9223372036854775808) (hD : 0 < D ∧ D < 9223372036854775808):
    Calls Try.prog 34 #[.agg #[.int .i64 aa, .int .i64 bb, .int .i64 cc, .int .i64 bc, .int .i64 ac, .int .i64 ab], .agg #[.int .i64 h0, .int .i64 h1, .int .i64 h2]] w fun e w' => e = .returned (.tuple #[.agg #[.int .i64 (N.tdiv (Int.gcd N D : Nat)), .int .i64 (D.tdiv (Int.gcd N D : Nat))], .int .i64 0]) ∧ Below w.heap.size w w' := by
  have CK := fun w => check_any aa bb cc bc ac ab w
  rw [ck] at CK
  have HC := Lib.hid CK; clear CK ck
  have B1 := Lib.hid (fun w => cbeyond_no 512 h0 h1 h2 w (by omega) (by omega) kh0 kh1 kh2)
  have HA := Lib.hid PA
  have HP := fun w => cproduct_any j00 j01 j02 j10 j11 j12 j20 j21 j22 h0 h1 h2 h0 h1 h2 w
  rw [eN] at HP
  have HP := Lib.hid HP
  have HD0 := fun w => cdet' aa bb cc bc ac ab w
  rw [eD] at HD0
  have HD := Lib.hid HD0
  have HG := Lib.hid (fun w => common_ok N D w hN ⟨by omega, hD.2⟩)
  have g0 : 0 < Int.gcd N D := Int.gcd_pos_of_ne_zero_right _ (by omega)
  have q1 := tdiv_b (g := Int.gcd N D) hN.1 hN.2; have q2 := tdiv_b (g := Int.gcd N D) (Int.le_of_lt hD.1) hD.2
  obtain ⟨g, eg⟩ : ∃ g : Nat, g = Int.gcd N D := ⟨_, rfl⟩
  rw [← eg] at HG g0 q1 q2 ⊢
  clear eg eN eD hN hD PA HD0 kh0 kh1 kh2
  go_enter Try.func34, Try.ntmps34
  go_wp2_with fail
  refine (B1.out _).mono ?_
  rintro e w1 ⟨rfl, hb1⟩
  obtain ⟨hc1, hf1⟩ := bcell hb1
  have hz1 := hb1.size
  try simp at hz1
  have z1_0 : w.heap.size < w1.heap.size := by omega
  have z1_1 : w.heap.size + 1 < w1.heap.size := by omega
  have z1_2 : w.heap.size + 1 + 1 < w1.heap.size := by omega
  go_wp2_with fail
  refine (HC.out _).mono ?_
  rintro e w2 ⟨rfl, hb2⟩
  obtain ⟨hc2, hf2⟩ := bcell hb2
  have hz2 := hb2.size
  try simp at hz2
  have z2_0 : w.heap.size < w2.heap.size := by omega
  have z2_1 : w.heap.size + 1 < w2.heap.size := by omega
  have z2_2 : w.heap.size + 1 + 1 < w2.heap.size := by omega
  go_wp2
  refine region_all (by kernel_rfl) (by kernel_rfl) ?_
  repeat (go_big_quiet_step (first | (go_at_call 64; exact held_of _ (Nat.le_refl _) (HA.out _)) | (go_at_call 62; exact held_of _ (Nat.le_refl _) (HP.out _)) | (go_at_call 51; exact held_of _ (Nat.le_refl _) (HD.out _))))
  refine wpQuiet_nil ?_
  rintro w' ⟨⟨w0, hb⟩, rfl⟩
  obtain ⟨hc, hf⟩ := bcell hb
  have hz := hb.size
  try simp at hz
  try have z0 : w.heap.size < w'.heap.size := (by omega)
  try have z1 : w.heap.size + 1 < w'.heap.size := (by omega)
  try have z2 : w.heap.size + 1 + 1 < w'.heap.size := (by omega)
  go_wp2_with fail
  refine (HG.out _).mono ?_
  rintro e w9 ⟨rfl, hb9⟩
  obtain ⟨hc9, hf9⟩ := bcell hb9
  have hz9 := hb9.size
  try simp at hz9
  have n1 : ¬ g = 0 := by omega
  have n2 : ¬ (g : Int) = 0 := by omega
  go_wp2
  go_region
  all_goals go_wp2
  all_goals refine bodyPost_ret (v := .tuple #[.agg #[.int .i64 (N.tdiv g), .int .i64 (D.tdiv g)], .int .i64 0]) (by simp [results, Try.results34, go_sem, wrap_add_l, wrap_add_r, wrap_sub_l, wrap_sub_r, wrap_mul_l, wrap_mul_r, wrap_neg, wrap_wrap, *]) rfl ⟨rfl, ?_⟩
  all_goals (repeat (first | exact Below.refl _ _ | assumption | exact Below.alloc (Below.refl _ _) (Nat.le_refl _) _ | refine Below.setCell ?_ (by first | (simp; done) | (simp; omega) | omega) _ | refine below_drewN ?_ _ | refine Below.alloc ?_ (by first | (simp; done) | (simp; omega) | omega) _ | refine Below.trans ?_ (Below.mono (by assumption) (by first | (simp; done) | (simp; omega) | omega))))

end Go.Proofs.Ytdhlkhockpblhaa
