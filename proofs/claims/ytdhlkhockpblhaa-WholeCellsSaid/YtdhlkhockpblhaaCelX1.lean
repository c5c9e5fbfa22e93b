/-
  cell: products of vectors, common divisors, spacings.
-/
import Derived.Test.YtdhlkhockpblhaaRedH
import Derived.Test.YtdhlkhockpblhaaCelT
import Derived.BigQuiet
namespace Go.Proofs.Ytdhlkhockpblhaa
open Go.RowKit
attribute [local irreducible] World.setCell

set_option linter.unusedSimpArgs false
set_option linter.unusedVariables false

theorem gcd_tmod (p q : Int) (hp : 0 ≤ p) (hq : 0 < q) : Int.gcd q (p.tmod q) = Int.gcd p q := by
  obtain ⟨n, rfl⟩ := Int.eq_ofNat_of_zero_le hp
  obtain ⟨m, rfl⟩ := Int.eq_ofNat_of_zero_le (Int.le_of_lt hq)
  rw [show (n : Int).tmod m = ((n % m : Nat) : Int) from rfl]
  simp only [Int.gcd, Int.natAbs_natCast]
  rw [Nat.gcd_comm m, ← Nat.gcd_rec, Nat.gcd_comm]
set_option maxHeartbeats 800000 in
theorem common_ok (a b : Int) (w : World) (ha : 0 ≤ a ∧ a < 9223372036854775808) (hb : 0 ≤ b ∧ b < 9223372036854775808):
    Calls Try.prog 65 #[.int .i64 a, .int .i64 b] w fun e w' => e = .returned (.int .i64 (Int.gcd a b : Nat)) ∧ Below w.heap.size w w' := by
  go_enter Try.func65, Try.ntmps65
  go_wp2
  go_loopw [0, 1] (fun x y wr => ∃ p q : Int, x = .int .i64 p ∧ y = .int .i64 q ∧ 0 ≤ p ∧ p < 9223372036854775808 ∧ 0 ≤ q ∧ q < 9223372036854775808 ∧ Int.gcd p q = Int.gcd a b ∧ Below w.heap.size w wr) (fun _ y _ => (intOf y).toNat)
  case atStart => exact ⟨a, b, rfl, rfl, ha.1, ha.2, hb.1, hb.2, rfl, Below.refl _ _⟩
  case round =>
    obtain ⟨p, q, rfl, rfl, hp0, hp1, hq0, hq1, hg, hB⟩ := hrel
    rcases Int.lt_or_le 0 q with h0 | h0
    · have n0 : ¬ q = 0 := by omega
      have t0 := Int.tmod_eq_emod_of_nonneg (b := q) hp0; have t1 := Int.emod_lt_of_pos p h0; have t2 := Int.emod_nonneg p n0
      have wt : wrap64 (p.tmod q) = p.tmod q := by unfold wrap64; omega
      have hd : decide (0 < q) = true := decide_eq_true h0
      go_wp2
      go_quiet (fail)
      go_wp2
      go_roundw
      case rel => exact ⟨q, p.tmod q, rfl, (by rw [t0]), hq0, hq1, (by omega), (by omega), (gcd_tmod p q hp0 h0).trans hg, (by repeat (first | exact Below.refl _ _ | assumption | exact Below.alloc (Below.refl _ _) (Nat.le_refl _) _ | refine Below.setCell ?_ (by first | (simp; done) | (simp; omega) | omega) _ | refine below_drewN ?_ _ | refine Below.alloc ?_ (by first | (simp; done) | (simp; omega) | omega) _ | refine Below.trans ?_ (Below.mono (by assumption) (by first | (simp; done) | (simp; omega) | omega))))⟩
      case measure => simp [intOf]; omega
    · have hd : decide (0 < q) = false := decide_eq_false (by omega)
      obtain rfl : q = 0 := by omega
      go_wp2
      refine bodyPost_ret (v := .int .i64 (Int.gcd a b : Nat)) ?_ rfl ⟨rfl, ?_⟩
      · rw [← hg, Int.gcd_zero_right]; simp [results, Try.results65, go_sem]; omega
      · repeat (first | exact Below.refl _ _ | assumption | exact Below.alloc (Below.refl _ _) (Nat.le_refl _) _ | refine Below.setCell ?_ (by first | (simp; done) | (simp; omega) | omega) _ | refine below_drewN ?_ _ | refine Below.alloc ?_ (by first | (simp; done) | (simp; omega) | omega) _ | refine Below.trans ?_ (Below.mono (by assumption) (by first | (simp; done) | (simp; omega) | omega)))

set_option maxHeartbeats 1600000 in
set_option maxRecDepth 100000 in
theorem Dot_ok (aa bb cc bc ac ab u0 u1 u2 v0 v1 v2 : Int) (w : World) (ck : checkC aa bb cc bc ac ab = 0) (ku0 : -1000 ≤ u0 ∧ u0 ≤ 1000) (ku1 : -1000 ≤ u1 ∧ u1 ≤ 1000) (ku2 : -1000 ≤ u2 ∧ u2 ≤ 1000) (kv0 : -1000 ≤ v0 ∧ v0 ≤ 1000) (kv1 : -1000 ≤ v1 ∧ v1 ≤ 1000) (kv2 : -1000 ≤ v2 ∧ v2 ≤ 1000):
    Calls Try.prog 31 #[.agg #[.int .i64 aa, .int .i64 bb, .int .i64 cc, .int .i64 bc, .int .i64 ac, .int .i64 ab], .agg #[.int .i64 u0, .int .i64 u1, .int .i64 u2], .agg #[.int .i64 v0, .int .i64 v1, .int .i64 v2]] w fun e w' => e = .returned (.tuple #[.int .i64 (wrap64 (u0 * aa * v0 + u0 * ab * v1 + u0 * ac * v2 + u1 * ab * v0 + u1 * bb * v1 + u1 * bc * v2 + u2 * ac * v0 + u2 * bc * v1 + u2 * cc * v2)), .int .i64 0]) ∧ Below w.heap.size w w' := by
  have CK := fun w => check_any aa bb cc bc ac ab w
  rw [ck] at CK
  have HC := Lib.hid CK; clear CK ck
  have B1 := Lib.hid (fun w => cbeyond_no 1000 u0 u1 u2 w (by omega) (by omega) ku0 ku1 ku2)
  have B2 := Lib.hid (fun w => cbeyond_no 1000 v0 v1 v2 w (by omega) (by omega) kv0 kv1 kv2)
  have HM := Lib.hid (fun w => cmatrix_any aa bb cc bc ac ab w)
  have HP := Lib.hid (fun w => cproduct_any aa ab ac ab bb bc ac bc cc u0 u1 u2 v0 v1 v2 w)
  clear ku0 ku1 ku2 kv0 kv1 kv2
  go_enter Try.func31, Try.ntmps31
  go_wp2_with fail
  refine (HC.out _).mono ?_
  rintro e w1 ⟨rfl, hb1⟩
  obtain ⟨hc1, hf1⟩ := bcell hb1
  have hz1 := hb1.size
  try simp at hz1
  have z1_0 : w.heap.size < w1.heap.size := by omega
  have z1_1 : w.heap.size + 1 < w1.heap.size := by omega
  have z1_2 : w.heap.size + 1 + 1 < w1.heap.size := by omega
  go_wp2_with fail
  refine (B1.out _).mono ?_
  rintro e w2 ⟨rfl, hb2⟩
  obtain ⟨hc2, hf2⟩ := bcell hb2
  have hz2 := hb2.size
  try simp at hz2
  have z2_0 : w.heap.size < w2.heap.size := by omega
  have z2_1 : w.heap.size + 1 < w2.heap.size := by omega
  have z2_2 : w.heap.size + 1 + 1 < w2.heap.size := by omega
  go_wp2_with fail
  refine (B2.out _).mono ?_
  rintro e w3 ⟨rfl, hb3⟩
  obtain ⟨hc3, hf3⟩ := bcell hb3
  have hz3 := hb3.size
  try simp at hz3
  have z3_0 : w.heap.size < w3.heap.size := by omega
  have z3_1 : w.heap.size + 1 < w3.heap.size := by omega
  have z3_2 : w.heap.size + 1 + 1 < w3.heap.size := by omega
  go_wp2
  refine region_all (by kernel_rfl) (by kernel_rfl) ?_
  repeat (go_big_quiet_step (first | (go_at_call 63; exact held_of _ (Nat.le_refl _) (HM.out _)) | (go_at_call 62; exact held_of _ (Nat.le_refl _) (HP.out _))))
  refine wpQuiet_nil ?_
  rintro w' ⟨⟨w0, hb⟩, rfl⟩
  obtain ⟨hc, hf⟩ := bcell hb
  have hz := hb.size
  try simp at hz
  try have z0 : w.heap.size < w'.heap.size := (by omega)
  try have z1 : w.heap.size + 1 < w'.heap.size := (by omega)
  try have z2 : w.heap.size + 1 + 1 < w'.heap.size := (by omega)
  go_wp2
  refine bodyPost_ret (v := .tuple #[.int .i64 (wrap64 (u0 * aa * v0 + u0 * ab * v1 + u0 * ac * v2 + u1 * ab * v0 + u1 * bb * v1 + u1 * bc * v2 + u2 * ac * v0 + u2 * bc * v1 + u2 * cc * v2)), .int .i64 0]) (by simp [results, Try.results31, go_sem, wrap_add_l, wrap_add_r, wrap_sub_l, wrap_sub_r, wrap_mul_l, wrap_mul_r, wrap_neg, wrap_wrap, *]) rfl ⟨rfl, ?_⟩
  repeat (first | exact Below.refl _ _ | assumption | exact Below.alloc (Below.refl _ _) (Nat.le_refl _) _ | refine Below.setCell ?_ (by first | (simp; done) | (simp; omega) | omega) _ | refine below_drewN ?_ _ | refine Below.alloc ?_ (by first | (simp; done) | (simp; omega) | omega) _ | refine Below.trans ?_ (Below.mono (by assumption) (by first | (simp; done) | (simp; omega) | omega)))

end Go.Proofs.Ytdhlkhockpblhaa
