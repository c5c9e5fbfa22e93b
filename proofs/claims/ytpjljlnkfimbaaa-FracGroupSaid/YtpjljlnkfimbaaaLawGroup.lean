/-
  The law FracGroup, walked: it returns true.
-/
import Derived.Test.YtpjljlnkfimbaaaLawGroupA
namespace Go.Proofs.Ytpjljlnkfimbaaa
open Go.RowKit
attribute [local irreducible] World.setCell

set_option maxHeartbeats 1600000 in
theorem group_any (a0 a1 a2 b0 b1 b2 c0 c1 c2 n : Int) (w : World) :
    Calls Try.prog 5 #[.agg #[.int .i64 a0, .int .i64 a1, .int .i64 a2], .agg #[.int .i64 b0, .int .i64 b1, .int .i64 b2], .agg #[.int .i64 c0, .int .i64 c1, .int .i64 c2], .int .i64 n] w fun e w' => e = .returned (.bool true) ∧ Below w.heap.size w w' := by
  have gc0 := g_comm a0 b0
  have ga0 := g_assoc a0 b0 c0
  have gn0 := g_neg a0
  have gb0 := g_subneg a0 b0
  have gc1 := g_comm a1 b1
  have ga1 := g_assoc a1 b1 c1
  have gn1 := g_neg a1
  have gb1 := g_subneg a1 b1
  have gc2 := g_comm a2 b2
  have ga2 := g_assoc a2 b2 c2
  have gn2 := g_neg a2
  have gb2 := g_subneg a2 b2
  go_enter Try.func5, Try.ntmps5
  go_wp2_with fail
  refine (awake_any _).mono ?_
  rintro e w1 ⟨rfl, hb1⟩
  obtain ⟨hc1, hf1⟩ := bcell hb1
  have hz1 := hb1.size
  try simp at hz1
  have z1_0 : w.heap.size < w1.heap.size := by omega
  have z1_1 : w.heap.size + 1 < w1.heap.size := by omega
  have z1_2 : w.heap.size + 1 + 1 < w1.heap.size := by omega
  go_wp2_with fail
  refine (add_any _ _ _ _ _ _ _).mono ?_
  rintro e w2 ⟨rfl, hb2⟩
  obtain ⟨hc2, hf2⟩ := bcell hb2
  have hz2 := hb2.size
  try simp at hz2
  have z2_0 : w.heap.size < w2.heap.size := by omega
  have z2_1 : w.heap.size + 1 < w2.heap.size := by omega
  have z2_2 : w.heap.size + 1 + 1 < w2.heap.size := by omega
  go_wp2
  refine region_all (by kernel_rfl) (by kernel_rfl) ?_
  repeat (go_big_quiet_step (first | (go_at_call 17; exact held_of _ (Nat.le_refl _) (add_any _ _ _ _ _ _ _)) | (go_at_call 19; exact held_of _ (Nat.le_refl _) (sub_any _ _ _ _ _ _ _)) | (go_at_call 21; exact held_of _ (Nat.le_refl _) (neg_any _ _ _ _))))
  refine wpQuiet_nil ?_
  rintro w3 ⟨⟨w0, hb3⟩, rfl⟩
  obtain ⟨hc3, hf3⟩ := bcell hb3
  have hz3 := hb3.size
  try simp at hz3
  have z3_0 : w.heap.size < w3.heap.size := by omega
  have z3_1 : w.heap.size + 1 < w3.heap.size := by omega
  have z3_2 : w.heap.size + 1 + 1 < w3.heap.size := by omega
  have z3_3 : w2.heap.size < w3.heap.size := by omega
  clear gc0 ga0 gn0 gb0 gc1 ga1 gn1 gb1 gc2 ga2 gn2 gb2
  go_wp2
  have e3 : (wrap64 (n.tmod 50 + 50)).tmod 50 = ((n % 50).toNat : Int) := by rw [mod_eq n 50 (by omega) (by omega)]; omega
  rw [e3]
  have hN : (n % 50).toNat < 50 := by omega
  clear e3
  generalize (n % 50).toNat = N at *
  simp only [Int.emod_add_emod, Int.add_emod_emod, Int.emod_sub_emod, Int.add_zero, Int.add_sub_cancel, Int.add_right_neg, Int.zero_emod]
  go_loopw [67] (fun i wr => ∃ k : Nat, k ≤ N ∧ i = .int .i64 k ∧ SumInv w w2.heap.size w3.heap.size a0 a1 a2 ((a0 + b0) % 24) ((a1 + b1) % 24) ((a2 + b2) % 24) k wr) (fun i _ => N - (intOf i).toNat)
  case atStart =>
    refine ⟨0, Nat.zero_le _, rfl, ⟨?_, by go_simp, by go_simp, by go_simp, by omega, by omega, by go_simp, by go_simp, by go_simp, by go_simp, by go_simp, by go_simp, by go_simp, by go_simp, by go_simp, by intro o; go_simp⟩⟩
    repeat (first | exact Below.refl _ _ | assumption | exact Below.alloc (Below.refl _ _) (Nat.le_refl _) _ | refine Below.setCell ?_ (by first | (simp; done) | (simp; omega) | omega) _ | refine below_drewN ?_ _ | refine Below.alloc ?_ (by first | (simp; done) | (simp; omega) | omega) _ | refine Below.trans ?_ (Below.mono (by assumption) (by first | (simp; done) | (simp; omega) | omega)))
  case round =>
    obtain ⟨k, hk, rfl, hinv⟩ := hrel
    have ca0 := hinv.ca0; have ca1 := hinv.ca1; have ca2 := hinv.ca2; have cs0 := hinv.cs0; have cs1 := hinv.cs1; have cs2 := hinv.cs2; have cb0 := hinv.cb0; have cb1 := hinv.cb1; have cb2 := hinv.cb2; have fb := hinv.fb; have zb := hinv.zb; have zs := hinv.zs; have za := hinv.za
    by_cases hlt : k < N
    · go_wp2_with fail
      refine (add_any _ _ _ _ _ _ _).mono ?_
      rintro e wa ⟨rfl, hba⟩
      obtain ⟨hca, hfa⟩ := bcell hba
      have hza := hba.size
      have z1 : w.heap.size < wa.heap.size := by omega
      have z2 : w2.heap.size < wa.heap.size := by omega
      have z3 : w3.heap.size < wa.heap.size := by omega
      go_wp2
      go_roundw
      case rel => exact ⟨k + 1, by omega, by go_num, hinv.step hba (by simp) (by simp) (by simp)⟩
      case measure => simp [intOf]; omega
    · obtain rfl : k = N := by omega
      have hbel := hinv.below
      clear hinv hk
      go_wp2
      have gt0 := g_timesneg k a0; have gt1 := g_timesneg k a1; have gt2 := g_timesneg k a2
      refine region_all (by kernel_rfl) (by kernel_rfl) ?_
      repeat (go_big_quiet_step (first | (go_at_call 23; exact held_of _ (Nat.le_refl _) (times_any _ _ _ _ _)) | (go_at_call 21; exact held_of _ (Nat.le_refl _) (neg_any _ _ _ _))))
      refine wpQuiet_nil ?_
      rintro w4 ⟨⟨w0, hb4⟩, rfl⟩
      obtain ⟨hc4, hf4⟩ := bcell hb4
      have hz4 := hb4.size
      clear gt0 gt1 gt2
      have q0 := emod_bd (a0 + b0) 24 (by omega); have q1 := emod_bd (a1 + b1) 24 (by omega); have q2 := emod_bd (a2 + b2) 24 (by omega)
      go_wp2
      refine wp_loop_rounds 4 ?_
      rw [rounds_succ]
      go_wp2
      rw [rounds_succ]
      go_wp2
      rw [rounds_succ]
      go_wp2
      rw [rounds_succ]
      go_wp2
      go_ret
      refine ⟨rfl, ?_⟩
      repeat (first | exact Below.refl _ _ | assumption | exact Below.alloc (Below.refl _ _) (Nat.le_refl _) _ | refine Below.setCell ?_ (by first | (simp; done) | (simp; omega) | omega) _ | refine below_drewN ?_ _ | refine Below.alloc ?_ (by first | (simp; done) | (simp; omega) | omega) _ | refine Below.trans ?_ (Below.mono (by assumption) (by first | (simp; done) | (simp; omega) | omega)))

end Go.Proofs.Ytpjljlnkfimbaaa
