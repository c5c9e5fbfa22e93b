/-
  Order of places, and the reference's answers for places, for every input.
-/
import Derived.Test.YtpjljlnkfimbaaaFracF
namespace Go.Proofs.Ytpjljlnkfimbaaa
open Go.RowKit
attribute [local irreducible] World.setCell

/-- By where they lie: one number, one triple. -/
def cmpC (a b : Int) : Int := if a < b then -1 else if b < a then 1 else 0
def lexC (a0 a1 a2 b0 b1 b2 : Int) : Int := if cmpC a0 b0 = 0 then (if cmpC a1 b1 = 0 then cmpC a2 b2 else cmpC a1 b1) else cmpC a0 b0

theorem quiet_at2 {P : Program} {f : FuncId} {args : Array Value} {W0 W : World} {a : Nat} {v : Value} (h : Calls P f args W fun e w' => e = .returned v ∧ W = w') (hW : ∃ m, W = W0.drewN (a + m)) :
    Calls P f args W fun e w' => e = .returned v ∧ ∃ m, w' = W0.drewN (a + m) :=
  h.mono fun _ _ ⟨he, hw⟩ => ⟨he, hw ▸ hW⟩

set_option maxHeartbeats 400000 in
theorem nan_any (a : Int) (w : World) :
    Calls Try.prog 50 #[.int .i64 a] w fun e w' => e = .returned (.bool false) ∧ w = w' := by
  go_enter Try.func50, Try.ntmps50
  go_wp2
  go_ret
  exact ⟨ret_bool (by simp), rfl⟩

set_option maxHeartbeats 400000 in
theorem cmp_any (a b : Int) (w : World) :
    Calls Try.prog 48 #[.int .i64 a, .int .i64 b] w fun e w' => e = .returned (.int .i64 (cmpC a b)) ∧ w = w' := by
  rcases Int.lt_trichotomy a b with h | h | h
  · have e : cmpC a b = -1 := by unfold cmpC; rw [if_pos h]
    have E := Lib.hid e; clear e
    go_enter Try.func48, Try.ntmps48
    go_wp2_with (go_at_call 50; refine (nan_any _ _).mono ?_; rintro e w' ⟨rfl, rfl⟩)
    go_ret
    exact ⟨ret_int E.out.symm, rfl⟩
  · subst h
    have e : cmpC a a = 0 := by unfold cmpC; simp
    have E := Lib.hid e; clear e
    go_enter Try.func48, Try.ntmps48
    go_wp2_with (go_at_call 50; refine (nan_any _ _).mono ?_; rintro e w' ⟨rfl, rfl⟩)
    go_ret
    exact ⟨ret_int E.out.symm, rfl⟩
  · have h' : ¬ a < b := by omega
    have e : cmpC a b = 1 := by unfold cmpC; rw [if_neg h', if_pos h]
    have E := Lib.hid e; clear e
    go_enter Try.func48, Try.ntmps48
    go_wp2_with (go_at_call 50; refine (nan_any _ _).mono ?_; rintro e w' ⟨rfl, rfl⟩)
    go_ret
    exact ⟨ret_int E.out.symm, rfl⟩

set_option maxHeartbeats 400000 in
theorem order_f1 (m x y z m' x' y' z' : Int) (w : World) (h : formB m x y z = false):
    Calls Try.prog 27 #[.agg #[.int .i64 m, .int .i64 x, .int .i64 y, .int .i64 z], .agg #[.int .i64 m', .int .i64 x', .int .i64 y', .int .i64 z']] w fun e w' => e = .returned (.tuple #[.int .i64 0, .int .i64 3]) ∧ Below w.heap.size w w' := by
  go_enter Try.func27, Try.ntmps27
  go_wp2_with (go_at_call 11; refine (form_any _ _ _ _ _).mono ?_; rintro e w' ⟨rfl, hb⟩; obtain ⟨hc, hf⟩ := bcell hb; have hz := hb.size; (try simp at hz); try have z0 : w.heap.size < w'.heap.size := (by omega); try have z1 : w.heap.size + 1 < w'.heap.size := (by omega))
  go_ret2
  refine ⟨rfl, ?_⟩
  repeat (first | exact Below.refl _ _ | assumption | exact Below.alloc (Below.refl _ _) (Nat.le_refl _) _ | refine Below.setCell ?_ (by first | (simp; done) | (simp; omega) | omega) _ | refine below_drewN ?_ _ | refine Below.alloc ?_ (by first | (simp; done) | (simp; omega) | omega) _ | refine Below.trans ?_ (Below.mono (by assumption) (by first | (simp; done) | (simp; omega) | omega)))

set_option maxHeartbeats 400000 in
theorem order_f2 (m x y z m' x' y' z' : Int) (w : World) (h : formB m x y z = true) (h' : formB m' x' y' z' = false):
    Calls Try.prog 27 #[.agg #[.int .i64 m, .int .i64 x, .int .i64 y, .int .i64 z], .agg #[.int .i64 m', .int .i64 x', .int .i64 y', .int .i64 z']] w fun e w' => e = .returned (.tuple #[.int .i64 0, .int .i64 3]) ∧ Below w.heap.size w w' := by
  go_enter Try.func27, Try.ntmps27
  go_wp2_with (go_at_call 11; refine (form_any _ _ _ _ _).mono ?_; rintro e w' ⟨rfl, hb⟩; obtain ⟨hc, hf⟩ := bcell hb; have hz := hb.size; (try simp at hz); try have z0 : w.heap.size < w'.heap.size := (by omega); try have z1 : w.heap.size + 1 < w'.heap.size := (by omega))
  go_ret2
  refine ⟨rfl, ?_⟩
  repeat (first | exact Below.refl _ _ | assumption | exact Below.alloc (Below.refl _ _) (Nat.le_refl _) _ | refine Below.setCell ?_ (by first | (simp; done) | (simp; omega) | omega) _ | refine below_drewN ?_ _ | refine Below.alloc ?_ (by first | (simp; done) | (simp; omega) | omega) _ | refine Below.trans ?_ (Below.mono (by assumption) (by first | (simp; done) | (simp; omega) | omega)))

theorem ret_lex {a b e : Int} (h : b = a) : Ending.returned (.tuple #[.int .i64 a, .int .i64 e]) = .returned (.tuple #[.int .i64 b, .int .i64 e]) := by rw [h]

set_option maxHeartbeats 1600000 in
theorem order_t (m x y z m' x' y' z' : Int) (w : World) (h : formB m x y z = true) (h' : formB m' x' y' z' = true):
    Calls Try.prog 27 #[.agg #[.int .i64 m, .int .i64 x, .int .i64 y, .int .i64 z], .agg #[.int .i64 m', .int .i64 x', .int .i64 y', .int .i64 z']] w fun e w' => e = .returned (.tuple #[.int .i64 (lexC (x * (192 / m)) (y * (192 / m)) (z * (192 / m)) (x' * (192 / m')) (y' * (192 / m')) (z' * (192 / m'))), .int .i64 0]) ∧ Below w.heap.size w w' := by
  have hm := form_hm h
  have hm' := form_hm h'
  obtain ⟨⟨m1, m2⟩, ⟨x1, x2⟩, ⟨y1, y2⟩, ⟨z1, z2⟩⟩ := hm
  obtain ⟨⟨n1, n2⟩, ⟨u1, u2⟩, ⟨v1, v2⟩, ⟨s1, s2⟩⟩ := hm'
  obtain ⟨q1, q2⟩ := ediv_bd 192 m (by omega) (by omega) m1
  obtain ⟨q3, q4⟩ := ediv_bd 192 m' (by omega) (by omega) n1
  obtain ⟨p0, p0'⟩ := mul_bd192 x (192 / m) (by omega) (by omega) q1 q2
  obtain ⟨r0, r0'⟩ := mul_bd192 x' (192 / m') (by omega) (by omega) q3 q4
  obtain ⟨p1, p1'⟩ := mul_bd192 y (192 / m) (by omega) (by omega) q1 q2
  obtain ⟨r1, r1'⟩ := mul_bd192 y' (192 / m') (by omega) (by omega) q3 q4
  obtain ⟨p2, p2'⟩ := mul_bd192 z (192 / m) (by omega) (by omega) q1 q2
  obtain ⟨r2, r2'⟩ := mul_bd192 z' (192 / m') (by omega) (by omega) q3 q4
  go_enter Try.func27, Try.ntmps27
  go_wp2_with (go_at_call 11; refine (form_any _ _ _ _ _).mono ?_; rintro e w' ⟨rfl, hb⟩; obtain ⟨hc, hf⟩ := bcell hb; have hz := hb.size; (try simp at hz); try have z0 : w.heap.size < w'.heap.size := (by omega); try have z1 : w.heap.size + 1 < w'.heap.size := (by omega))
  refine wp_loop_rounds 4 ?_
  rw [rounds_succ]
  by_cases k0 : cmpC (x * (192 / m)) (x' * (192 / m')) = 0
  · have e0 : (cmpC (x * (192 / m)) (x' * (192 / m')) != 0) = false := by simpa using k0
    have K0 := Lib.hid k0; clear k0
    go_wp2
    go_quiet ((go_at_call 48; first | exact quiet_at (cmp_any _ _ _) ⟨_, rfl⟩ | exact quiet_at2 (cmp_any _ _ _) ⟨_, rfl⟩))
    go_wp2
    rw [rounds_succ]
    by_cases k1 : cmpC (y * (192 / m)) (y' * (192 / m')) = 0
    · have e1 : (cmpC (y * (192 / m)) (y' * (192 / m')) != 0) = false := by simpa using k1
      have K1 := Lib.hid k1; clear k1
      go_wp2
      go_quiet ((go_at_call 48; first | exact quiet_at (cmp_any _ _ _) ⟨_, rfl⟩ | exact quiet_at2 (cmp_any _ _ _) ⟨_, rfl⟩))
      go_wp2
      rw [rounds_succ]
      by_cases k2 : cmpC (z * (192 / m)) (z' * (192 / m')) = 0
      · have e2 : (cmpC (z * (192 / m)) (z' * (192 / m')) != 0) = false := by simpa using k2
        have K2 := Lib.hid k2; clear k2
        go_wp2
        go_quiet ((go_at_call 48; first | exact quiet_at (cmp_any _ _ _) ⟨_, rfl⟩ | exact quiet_at2 (cmp_any _ _ _) ⟨_, rfl⟩))
        go_wp2
        rw [rounds_succ]
        go_wp2
        go_ret2
        refine ⟨ret_lex (by unfold lexC; rw [if_pos K0.out, if_pos K1.out, K2.out]), ?_⟩
        repeat (first | exact Below.refl _ _ | assumption | exact Below.alloc (Below.refl _ _) (Nat.le_refl _) _ | refine Below.setCell ?_ (by first | (simp; done) | (simp; omega) | omega) _ | refine below_drewN ?_ _ | refine Below.alloc ?_ (by first | (simp; done) | (simp; omega) | omega) _ | refine Below.trans ?_ (Below.mono (by assumption) (by first | (simp; done) | (simp; omega) | omega)))
      · have e2 : (cmpC (z * (192 / m)) (z' * (192 / m')) != 0) = true := by simpa using k2
        have K2 := Lib.hid k2; clear k2
        go_wp2
        go_quiet ((go_at_call 48; first | exact quiet_at (cmp_any _ _ _) ⟨_, rfl⟩ | exact quiet_at2 (cmp_any _ _ _) ⟨_, rfl⟩))
        go_wp2
        go_ret2
        refine ⟨ret_lex (by unfold lexC; rw [if_pos K0.out]; rw [if_pos K1.out]), ?_⟩
        repeat (first | exact Below.refl _ _ | assumption | exact Below.alloc (Below.refl _ _) (Nat.le_refl _) _ | refine Below.setCell ?_ (by first | (simp; done) | (simp; omega) | omega) _ | refine below_drewN ?_ _ | refine Below.alloc ?_ (by first | (simp; done) | (simp; omega) | omega) _ | refine Below.trans ?_ (Below.mono (by assumption) (by first | (simp; done) | (simp; omega) | omega)))
    · have e1 : (cmpC (y * (192 / m)) (y' * (192 / m')) != 0) = true := by simpa using k1
      have K1 := Lib.hid k1; clear k1
      go_wp2
      go_quiet ((go_at_call 48; first | exact quiet_at (cmp_any _ _ _) ⟨_, rfl⟩ | exact quiet_at2 (cmp_any _ _ _) ⟨_, rfl⟩))
      go_wp2
      go_ret2
      refine ⟨ret_lex (by unfold lexC; rw [if_pos K0.out]; rw [if_neg K1.out]), ?_⟩
      repeat (first | exact Below.refl _ _ | assumption | exact Below.alloc (Below.refl _ _) (Nat.le_refl _) _ | refine Below.setCell ?_ (by first | (simp; done) | (simp; omega) | omega) _ | refine below_drewN ?_ _ | refine Below.alloc ?_ (by first | (simp; done) | (simp; omega) | omega) _ | refine Below.trans ?_ (Below.mono (by assumption) (by first | (simp; done) | (simp; omega) | omega)))
  · have e0 : (cmpC (x * (192 / m)) (x' * (192 / m')) != 0) = true := by simpa using k0
    have K0 := Lib.hid k0; clear k0
    go_wp2
    go_quiet ((go_at_call 48; first | exact quiet_at (cmp_any _ _ _) ⟨_, rfl⟩ | exact quiet_at2 (cmp_any _ _ _) ⟨_, rfl⟩))
    go_wp2
    go_ret2
    refine ⟨ret_lex (by unfold lexC; rw [if_neg K0.out]), ?_⟩
    repeat (first | exact Below.refl _ _ | assumption | exact Below.alloc (Below.refl _ _) (Nat.le_refl _) _ | refine Below.setCell ?_ (by first | (simp; done) | (simp; omega) | omega) _ | refine below_drewN ?_ _ | refine Below.alloc ?_ (by first | (simp; done) | (simp; omega) | omega) _ | refine Below.trans ?_ (Below.mono (by assumption) (by first | (simp; done) | (simp; omega) | omega)))

end Go.Proofs.Ytpjljlnkfimbaaa
