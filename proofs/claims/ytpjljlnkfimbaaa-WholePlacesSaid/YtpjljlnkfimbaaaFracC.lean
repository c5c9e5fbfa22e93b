/-
  Places in form: frac.Form, Place, Shift, Minus, Opposite, Finer, Order and the reference's, for every input.
-/
import Derived.Test.YtpjljlnkfimbaaaFracB
import Derived.ChangeKeysEq
namespace Go.Proofs.Ytpjljlnkfimbaaa
open Go.RowKit
attribute [local irreducible] World.setCell


theorem some_of_isSome {α : Type} {o : Option α} (h : o.isSome = true) : ∃ i, o = some i := Option.isSome_iff_exists.1 h
@[go_sem] theorem eqVec (d : Nat) (a0 a1 a2 b0 b1 b2 : Int) (w : World) :
    (Op.equalIn (d + 2) 23 (.agg #[.int .i64 a0, .int .i64 a1, .int .i64 a2]) (.agg #[.int .i64 b0, .int .i64 b1, .int .i64 b2])).run Try.prog w = .ok (a0 == b0 && (a1 == b1 && a2 == b2)) w := by
  obtain ⟨i, hi⟩ := some_of_isSome (o := Try.prog.info? 3) (by kernel_rfl)
  have und : Try.prog.underlying 23 = some (.array 3 3) := by kernel_rfl
  have c3 : Try.prog.cellsOf 3 = 1 := by kernel_rfl
  rw [run_equalIn_array w (d + 1) _ _ und hi, c3]
  have p0 : ∀ (x y z : Value) (w : World), (part 3 #[x, y, z] 0).run Try.prog w = .ok x w := fun _ _ _ _ => by kernel_rfl
  have p1 : ∀ (x y z : Value) (w : World), (part 3 #[x, y, z] 1).run Try.prog w = .ok y w := fun _ _ _ _ => by kernel_rfl
  have p2 : ∀ (x y z : Value) (w : World), (part 3 #[x, y, z] 2).run Try.prog w = .ok z w := fun _ _ _ _ => by kernel_rfl
  simp [List.range_succ, Op.eqItems, p0, p1, p2, run_equalIn_int (h := Try.underlying3)]
  by_cases h0 : a0 = b0 <;> by_cases h1 : a1 = b1 <;> by_cases h2 : a2 = b2 <;> simp [h0, h1, h2]
@[go_sem] theorem eqPoint (d : Nat) (m x y z m' x' y' z' : Int) (w : World) :
    (Op.equalIn (d + 3) 25 (.agg #[.int .i64 m, .int .i64 x, .int .i64 y, .int .i64 z]) (.agg #[.int .i64 m', .int .i64 x', .int .i64 y', .int .i64 z'])).run Try.prog w = .ok (m == m' && (x == x' && (y == y' && z == z'))) w := by
  have hl : (Try.prog.fieldsOf 25).toList.map (fun f => (f.name == "_", f.type, f.offset)) = [(false, 3, 0), (false, 23, 1)] := by kernel_rfl
  rw [run_equalIn_agg w (d + 2) 25 _ _ (by kernel_rfl) (by kernel_rfl)]
  rcases hL : (Try.prog.fieldsOf 25).toList with _ | ⟨f1, _ | ⟨f2, _ | ⟨f3, l⟩⟩⟩ <;> rw [hL] at hl <;> simp at hl
  obtain ⟨⟨g1, t1, o1⟩, g2, t2, o2⟩ := hl
  have p0 : ∀ (a b c e : Value) (w : World), (part 3 #[a, b, c, e] 0).run Try.prog w = .ok a w := fun _ _ _ _ _ => by kernel_rfl
  have p1 : ∀ (a b c e : Value) (w : World), (part 23 #[a, b, c, e] 1).run Try.prog w = .ok (.agg #[b, c, e]) w := fun _ _ _ _ _ => by kernel_rfl
  simp [Op.eqFields, g1, g2, t1, t2, o1, o2, p0, p1, run_equalIn_int (h := Try.underlying3), eqVec]
  by_cases h0 : m = m' <;> by_cases h1 : x = x' <;> by_cases h2 : y = y' <;> by_cases h3 : z = z' <;> simp [h0, h1, h2, h3]

/-- Is m one of the four? -/
def rightB (m : Int) : Bool := m == 24 || m == 48 || m == 96 || m == 192
theorem rightB_iff (m : Int) : rightB m = true ↔ m = 24 ∨ m = 48 ∨ m = 96 ∨ m = 192 := by simp [rightB, or_assoc]
/-- Is the place in form? -/
def inB (m x : Int) : Bool := decide (0 ≤ x ∧ x < m)
def formB (m x y z : Int) : Bool := rightB m && inB m x && inB m y && inB m z
@[go_sem] theorem idx0 (a b c : Int) (w : World) : (Instr.index 23 (.agg #[.int .i64 a, .int .i64 b, .int .i64 c]) (.int .i64 0)).run Try.prog w = .ok (.int .i64 a) w := by kernel_rfl
@[go_sem] theorem idx1 (a b c : Int) (w : World) : (Instr.index 23 (.agg #[.int .i64 a, .int .i64 b, .int .i64 c]) (.int .i64 1)).run Try.prog w = .ok (.int .i64 b) w := by kernel_rfl
@[go_sem] theorem idx2 (a b c : Int) (w : World) : (Instr.index 23 (.agg #[.int .i64 a, .int .i64 b, .int .i64 c]) (.int .i64 2)).run Try.prog w = .ok (.int .i64 c) w := by kernel_rfl

set_option maxHeartbeats 400000 in
theorem right_any (m : Int) (w : World) :
    Calls Try.prog 35 #[.int .i64 m] w fun e w' => e = .returned (.bool (rightB m)) ∧ w = w' := by
  by_cases h1 : m = 24 ∨ m = 48 ∨ m = 96 ∨ m = 192
  · rcases h1 with rfl | rfl | rfl | rfl
    all_goals
      go_enter Try.func35, Try.ntmps35
      go_wp2
      go_ret
      exact ⟨rfl, rfl⟩
  · have h2 : rightB m = false := by cases h : rightB m with | false => rfl | true => exact absurd ((rightB_iff m).1 h) h1
    rw [h2]
    have g1 : (m == 24) = false := by simp; omega
    have g2 : (m == 48) = false := by simp; omega
    have g3 : (m == 96) = false := by simp; omega
    have g4 : (m == 192) = false := by simp; omega
    clear h1 h2
    go_enter Try.func35, Try.ntmps35
    go_wp2
    go_ret
    exact ⟨rfl, rfl⟩

set_option maxHeartbeats 400000 in
theorem rright_any (m : Int) (w : World) :
    Calls Try.prog 36 #[.int .i64 m] w fun e w' => e = .returned (.bool (rightB m)) ∧ w = w' := by
  by_cases h1 : m = 24 ∨ m = 48 ∨ m = 96 ∨ m = 192
  · rcases h1 with rfl | rfl | rfl | rfl
    all_goals
      go_enter Try.func36, Try.ntmps36
      go_wp2
      go_ret
      exact ⟨rfl, rfl⟩
  · have h2 : rightB m = false := by cases h : rightB m with | false => rfl | true => exact absurd ((rightB_iff m).1 h) h1
    rw [h2]
    have g1 : (m == 24) = false := by simp; omega
    have g2 : (m == 48) = false := by simp; omega
    have g3 : (m == 96) = false := by simp; omega
    have g4 : (m == 192) = false := by simp; omega
    clear h1 h2
    go_enter Try.func36, Try.ntmps36
    go_wp2
    go_ret
    exact ⟨rfl, rfl⟩

theorem formB_f {m x y z : Int} (h : rightB m = false) : formB m x y z = false := by simp [formB, h]
set_option maxHeartbeats 400000 in
theorem form_f (m x y z : Int) (w : World) (h : rightB m = false):
    Calls Try.prog 11 #[.agg #[.int .i64 m, .int .i64 x, .int .i64 y, .int .i64 z]] w fun e w' => e = .returned (.bool false) ∧ Below w.heap.size w w' := by
  go_enter Try.func11, Try.ntmps11
  have g := right_any m
  rw [h] at g
  have G := Lib.hid g
  clear g
  go_wp2_with (go_at_call 35; refine (G.out _).mono ?_; rintro e w' ⟨rfl, rfl⟩)
  go_ret
  refine ⟨rfl, ?_⟩
  repeat (first | exact Below.refl _ _ | assumption | exact Below.alloc (Below.refl _ _) (Nat.le_refl _) _ | refine Below.setCell ?_ (by first | (simp; done) | (simp; omega) | omega) _ | refine below_drewN ?_ _ | refine Below.alloc ?_ (by first | (simp; done) | (simp; omega) | omega) _ | refine Below.trans ?_ (Below.mono (by assumption) (by first | (simp; done) | (simp; omega) | omega)))

theorem inB_t {m x : Int} (h : inB m x = true) : 0 ≤ x ∧ x < m := by simpa [inB] using h
theorem inB_f {m x : Int} (h : ¬ inB m x = true) : x < 0 ∨ (0 ≤ x ∧ m ≤ x) := by simp [inB] at h; omega

set_option maxHeartbeats 800000 in
theorem form_t (m x y z : Int) (w : World) (h : rightB m = true):
    Calls Try.prog 11 #[.agg #[.int .i64 m, .int .i64 x, .int .i64 y, .int .i64 z]] w fun e w' => e = .returned (.bool (inB m x && inB m y && inB m z)) ∧ Below w.heap.size w w' := by
  go_enter Try.func11, Try.ntmps11
  have g := right_any m
  rw [h] at g
  have G := Lib.hid g
  clear g h
  go_wp2_with (go_at_call 35; refine (G.out _).mono ?_; rintro e w' ⟨rfl, rfl⟩)
  refine wp_loop_rounds 4 ?_
  rw [rounds_succ]
  by_cases cx : inB m x = true
  · obtain ⟨dx, ex⟩ := inB_t cx
    have Cx := Lib.hid cx; clear cx
    go_wp2
    rw [rounds_succ]
    by_cases cy : inB m y = true
    · obtain ⟨dy, ey⟩ := inB_t cy
      have Cy := Lib.hid cy; clear cy
      go_wp2
      rw [rounds_succ]
      by_cases cz : inB m z = true
      · obtain ⟨dz, ez⟩ := inB_t cz
        have Cz := Lib.hid cz; clear cz
        go_wp2
        rw [rounds_succ]
        go_wp2
        go_ret
        refine ⟨ret_bool (by rw [Cx.out, Cy.out, Cz.out]; rfl), ?_⟩
        repeat (first | exact Below.refl _ _ | assumption | exact Below.alloc (Below.refl _ _) (Nat.le_refl _) _ | refine Below.setCell ?_ (by first | (simp; done) | (simp; omega) | omega) _ | refine below_drewN ?_ _ | refine Below.alloc ?_ (by first | (simp; done) | (simp; omega) | omega) _ | refine Below.trans ?_ (Below.mono (by assumption) (by first | (simp; done) | (simp; omega) | omega)))
      · have Cz := Lib.hid cz
        obtain c1 | ⟨c1, c2⟩ := inB_f cz
        all_goals
          clear cz
          go_wp2
          go_ret
          refine ⟨ret_bool (by have q := Cz.out; simp [q]), ?_⟩
          repeat (first | exact Below.refl _ _ | assumption | exact Below.alloc (Below.refl _ _) (Nat.le_refl _) _ | refine Below.setCell ?_ (by first | (simp; done) | (simp; omega) | omega) _ | refine below_drewN ?_ _ | refine Below.alloc ?_ (by first | (simp; done) | (simp; omega) | omega) _ | refine Below.trans ?_ (Below.mono (by assumption) (by first | (simp; done) | (simp; omega) | omega)))
    · have Cy := Lib.hid cy
      obtain c1 | ⟨c1, c2⟩ := inB_f cy
      all_goals
        clear cy
        go_wp2
        go_ret
        refine ⟨ret_bool (by have q := Cy.out; simp [q]), ?_⟩
        repeat (first | exact Below.refl _ _ | assumption | exact Below.alloc (Below.refl _ _) (Nat.le_refl _) _ | refine Below.setCell ?_ (by first | (simp; done) | (simp; omega) | omega) _ | refine below_drewN ?_ _ | refine Below.alloc ?_ (by first | (simp; done) | (simp; omega) | omega) _ | refine Below.trans ?_ (Below.mono (by assumption) (by first | (simp; done) | (simp; omega) | omega)))
  · have Cx := Lib.hid cx
    obtain c1 | ⟨c1, c2⟩ := inB_f cx
    all_goals
      clear cx
      go_wp2
      go_ret
      refine ⟨ret_bool (by have q := Cx.out; simp [q]), ?_⟩
      repeat (first | exact Below.refl _ _ | assumption | exact Below.alloc (Below.refl _ _) (Nat.le_refl _) _ | refine Below.setCell ?_ (by first | (simp; done) | (simp; omega) | omega) _ | refine below_drewN ?_ _ | refine Below.alloc ?_ (by first | (simp; done) | (simp; omega) | omega) _ | refine Below.trans ?_ (Below.mono (by assumption) (by first | (simp; done) | (simp; omega) | omega)))

theorem form_any (m x y z : Int) (w : World) : Calls Try.prog 11 #[.agg #[.int .i64 m, .int .i64 x, .int .i64 y, .int .i64 z]] w fun e w' => e = .returned (.bool (formB m x y z)) ∧ Below w.heap.size w w' := by
  by_cases h : rightB m = true
  · have e : formB m x y z = (inB m x && inB m y && inB m z) := by simp [formB, h]
    rw [e]; exact form_t m x y z w h
  · have h : rightB m = false := by simpa using h
    rw [formB_f h]; exact form_f m x y z w h
theorem formB_right {m x y z : Int} (h : formB m x y z = true) : rightB m = true := by simp [formB] at h; exact h.1.1.1
theorem right_pos {m : Int} (h : rightB m = true) : 0 < m ∧ m ≤ 192 := by have := (rightB_iff m).1 h; omega
theorem formB_t {m x y z : Int} (h : formB m x y z = true) : rightB m = true ∧ (0 ≤ x ∧ x < m) ∧ (0 ≤ y ∧ y < m) ∧ (0 ≤ z ∧ z < m) := by
  simp [formB] at h; exact ⟨h.1.1.1, inB_t h.1.1.2, inB_t h.1.2, inB_t h.2⟩
theorem inB_emod {m x : Int} (hm : 0 < m) : inB m x = (x == x % m) := by
  unfold inB
  by_cases h : x = x % m
  · have := emod_bd x m hm
    have e : (x == x % m) = true := by simpa using h
    rw [e]; simp; omega
  · have e : (x == x % m) = false := by simpa using h
    rw [e]; simp
    intro h0
    rcases Int.lt_or_le x m with h1 | h1
    · exact absurd (Int.emod_eq_of_lt h0 h1).symm h
    · exact h1

set_option maxHeartbeats 400000 in
theorem rform_f (m x y z : Int) (w : World) (h : rightB m = false):
    Calls Try.prog 12 #[.agg #[.int .i64 m, .int .i64 x, .int .i64 y, .int .i64 z]] w fun e w' => e = .returned (.bool false) ∧ Below w.heap.size w w' := by
  have g := rright_any m
  rw [h] at g
  have G := Lib.hid g
  clear g h
  go_enter Try.func12, Try.ntmps12
  go_wp2
  refine region_all (by kernel_rfl) (by kernel_rfl) ?_
  repeat (go_big_quiet_step ((go_at_call 36; exact held_of _ (Nat.le_refl _) (same_below (G.out _)))))
  refine wpQuiet_nil ?_
  rintro w' ⟨⟨w0, hb⟩, rfl⟩
  obtain ⟨hc, hf⟩ := bcell hb
  have hz := hb.size
  simp at hz
  have z0 : w.heap.size < w'.heap.size := (by omega)
  go_wp2
  go_ret
  refine ⟨rfl, ?_⟩
  repeat (first | exact Below.refl _ _ | assumption | exact Below.alloc (Below.refl _ _) (Nat.le_refl _) _ | refine Below.setCell ?_ (by first | (simp; done) | (simp; omega) | omega) _ | refine below_drewN ?_ _ | refine Below.alloc ?_ (by first | (simp; done) | (simp; omega) | omega) _ | refine Below.trans ?_ (Below.mono (by assumption) (by first | (simp; done) | (simp; omega) | omega)))

set_option maxHeartbeats 400000 in
theorem rform_t (m x y z : Int) (w : World) (h : rightB m = true):
    Calls Try.prog 12 #[.agg #[.int .i64 m, .int .i64 x, .int .i64 y, .int .i64 z]] w fun e w' => e = .returned (.bool (x == x % m && (y == y % m && z == z % m))) ∧ Below w.heap.size w w' := by
  obtain ⟨p1, p2⟩ := right_pos h
  have g := rright_any m
  rw [h] at g
  have G := Lib.hid g
  clear g h
  go_enter Try.func12, Try.ntmps12
  go_wp2
  refine region_all (by kernel_rfl) (by kernel_rfl) ?_
  repeat (go_big_quiet_step (first | (go_at_call 36; exact held_of _ (Nat.le_refl _) (same_below (G.out _))) | (go_at_call 37; exact held_of _ (Nat.le_refl _) (bring_any _ _ _ _ _ p1 p2))))
  refine wpQuiet_nil ?_
  rintro w' ⟨⟨w0, hb⟩, rfl⟩
  obtain ⟨hc, hf⟩ := bcell hb
  have hz := hb.size
  simp at hz
  have z0 : w.heap.size < w'.heap.size := (by omega)
  go_wp2
  go_ret
  refine ⟨rfl, ?_⟩
  repeat (first | exact Below.refl _ _ | assumption | exact Below.alloc (Below.refl _ _) (Nat.le_refl _) _ | refine Below.setCell ?_ (by first | (simp; done) | (simp; omega) | omega) _ | refine below_drewN ?_ _ | refine Below.alloc ?_ (by first | (simp; done) | (simp; omega) | omega) _ | refine Below.trans ?_ (Below.mono (by assumption) (by first | (simp; done) | (simp; omega) | omega)))

end Go.Proofs.Ytpjljlnkfimbaaa
