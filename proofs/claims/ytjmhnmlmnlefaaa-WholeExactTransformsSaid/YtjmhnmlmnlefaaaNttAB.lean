/-
  The law NttProducts: words.
-/
import Derived.Test.YtjmhnmlmnlefaaaNttAA
import Derived.Test.YtjmhnmlmnlefaaaNttY
namespace Go.Proofs.Ytjmhnmlmnlefaaa
open Go.RowKit Go.Lib
attribute [local irreducible] World.setCell
set_option linter.unusedSimpArgs false
set_option linter.unusedVariables false


theorem fcode_zero {n0 n1 n2 m0 m1 m2 ca cb : Int} (h : fcode n0 n1 n2 m0 m1 m2 ca cb = 0) (ha : 0 ≤ ca) (hb : 0 ≤ cb) : ca = 0 ∧ cb = 0 ∧ n0 = m0 ∧ n1 = m1 ∧ n2 = m2 := by
  unfold fcode at h
  by_cases z : least2 ca cb = 0
  · rw [if_pos z] at h
    by_cases r : n0 = m0 ∧ n1 = m1 ∧ n2 = m2
    · unfold least2 at z
      by_cases y : ca = 0 ∨ cb ≠ 0 ∧ cb < ca
      · rw [if_pos y] at z; exact ⟨by omega, z, r⟩
      · rw [if_neg y] at z; omega
    · rw [if_neg r] at h; omega
  · rw [if_neg z] at h; exact absurd h z
theorem foldZ_line {n i : Nat} (hi : i < n) (V W : Nat → Int) : foldZ n 1 1 V W i = sz n (fun p => V p * W ((i + (n - p)) % n)) := by
  unfold foldZ
  refine sz_congr fun p _ => ?_
  show (0 : Int) + (0 + _) = _
  rw [Int.zero_add, Int.zero_add]
  simp [Nat.mod_one]
theorem iF_line {n i : Nat} (hi : i < n) (V W : Nat → Int) : iF (foldZ n 1 1 V W i) = fold n (fun i => iF (V i)) (fun i => iF (W i)) i := by
  rw [foldZ_line hi, iF_sz]
  unfold fold
  exact sm_congr fun p _ => iF_mul _ _
set_option maxHeartbeats 1000000 in
theorem word_any (v : Int) (h : -288230376151711744 ≤ v ∧ v ≤ 288230376151711744) (w : World) : Calls Try.prog 22 #[.int .i64 v] w fun e w' => e = .returned (wd (iF v)) ∧ w = w' := by
  by_cases c : v < 0
  · have e := iF_neg c h.1
    have hc : wrap64 (-v) = -v := wrap_id _ (by omega) (by omega)
    have hu : (-v) % 18446744073709551616 = -v := by omega
    have hu2 : (18446744069414584321 - -v) % 18446744073709551616 = v + 18446744069414584321 := by omega
    have HE := Lib.hid (congrArg (Value.int IntKind.u64) (e.trans (Int.add_comm _ _))); clear e
    go_enter Try.func22, Try.ntmps22
    go_wp2
    go_ret
    exact ⟨congrArg Ending.returned HE.out.symm, rfl⟩
  · have e := iF_pos (t := v) (by omega) h.2
    have hu : v % 18446744073709551616 = v := by omega
    have HE := Lib.hid (congrArg (Value.int IntKind.u64) e); clear e
    go_enter Try.func22, Try.ntmps22
    go_wp2
    go_ret
    exact ⟨congrArg Ending.returned HE.out.symm, rfl⟩

theorem products_bad (va vb : Value) (na nb : Nat) (f : Int) (w : World) (hf : f ≠ 0)
    (hna : ∃ a c, va = .slice a na c) (hnb : ∃ a c, vb = .slice a nb c)
    (H : ∀ w', Below w.heap.size w w' → Calls Try.prog 15 #[.agg #[.int .i64 na, .int .i64 1, .int .i64 1, va], .agg #[.int .i64 nb, .int .i64 1, .int .i64 1, vb]] w' fun e w'' => e = .returned (.tuple #[.agg #[.int .i64 0, .int .i64 0, .int .i64 0, .slice none 0 0], .int .i64 f]) ∧ Below w'.heap.size w' w'') :
    Calls Try.prog 5 #[va, vb] w fun e w' => e = .returned (.bool true) ∧ Below w.heap.size w w' := by
  have HC := Lib.hid H; clear H
  obtain ⟨a1, c1, rfl⟩ := hna; obtain ⟨a2, c2, rfl⟩ := hnb
  have hf' : (f != 0) = true := by rw [bne_iff_ne]; exact hf
  go_enter Try.func5, Try.ntmps5
  go_wp2_with fail
  refine (awake_any _).mono ?_
  rintro e w1 ⟨rfl, hb1⟩
  have HB := Lib.hid hb1; clear hb1
  go_wp2_with fail
  refine (HC.out _ HB.out).mono ?_
  rintro e w2 ⟨rfl, hb2⟩
  have HB2 := Lib.hid (HB.out.trans (hb2.mono HB.out.size))
  have hl2 := HB2.out.size
  clear hb2 HC HB
  go_wp2
  go_ret
  exact ⟨rfl, HB2.out.trans ((by repeat (first | assumption | exact Below.refl _ _ | refine below_drewN ?_ _ | refine Below.alloc ?_ (by first | (simp; done) | (simp; omega) | omega) _ | refine Below.setCell ?_ (by first | (simp; done) | (simp; omega) | omega) _)))⟩

end Go.Proofs.Ytjmhnmlmnlefaaa
