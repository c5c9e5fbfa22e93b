/-
  DocShortest: the walk.
-/
import Derived.Test.YtdhlkhockpblhaaRedK6
namespace Go.Proofs.Ytdhlkhockpblhaa
open Go.RowKit
attribute [local irreducible] World.setCell

set_option linter.unusedSimpArgs false
set_option linter.unusedVariables false

set_option maxHeartbeats 400000 in
theorem DocShortest_bad (m : Met) (C : Int) (w : World) (h : chk m = C) (hC : C ≠ 0):
    Calls Try.prog 16 #[.agg #[.int .i64 m.aa, .int .i64 m.bb, .int .i64 m.cc, .int .i64 m.bc, .int .i64 m.ac, .int .i64 m.ab]] w fun e w' => e = .returned (.tuple #[.int .i64 0, .int .i64 C]) ∧ Below w.heap.size w w' := by
  have E := Lib.hid h; clear h
  go_enter Try.func16, Try.ntmps16
  go_wp2_with fail
  refine (to_v (congrArg (Value.int .i64) E.out) (dcheck_any _ _ _ _ _ _ _)).mono ?_
  rintro e w1 ⟨rfl, hb1⟩
  obtain ⟨hc1, hf1⟩ := bcell hb1
  have hz1 := hb1.size
  try simp at hz1
  have z1_0 : w.heap.size < w1.heap.size := by omega
  go_wp2
  refine bodyPost_ret (v := .tuple #[.int .i64 0, .int .i64 C]) (by simp [results, Try.results16, go_sem, wrap_add_l, wrap_add_r, wrap_sub_l, wrap_sub_r, wrap_mul_l, wrap_mul_r, wrap_neg, wrap_wrap, wrap3, *]) rfl ⟨rfl, ?_⟩
  repeat (first | exact Below.refl _ _ | assumption | exact Below.alloc (Below.refl _ _) (Nat.le_refl _) _ | refine Below.setCell ?_ (by first | (simp; done) | (simp; omega) | omega) _ | refine below_drewN ?_ _ | refine Below.alloc ?_ (by first | (simp; done) | (simp; omega) | omega) _ | refine Below.trans ?_ (Below.mono (by assumption) (by first | (simp; done) | (simp; omega) | omega)))

@[go_sem ↓ high] theorem run_min_3 (w : World) (ts : Array TypeId) (t : TypeId) (k k' k'' : IntKind) (x y z : Int) :
    (Builtin.min_ ts t #[.int k x, .int k' y, .int k'' z]).run Try.prog w = .ok (.int k (min (min x y) z)) w := by
  have e : (if z < (if y < x then y else x) then z else (if y < x then y else x)) = min (min x y) z := by
    by_cases h : y < x
    · rw [if_pos h]; by_cases h2 : z < y <;> simp [h2] <;> omega
    · rw [if_neg h]; by_cases h2 : z < x <;> simp [h2] <;> omega
  rw [← e]
  simp [Builtin.min_, Builtin.min2]
theorem tr_chk {m : Met} (h : Chk m) : tr3 m ≤ 300000 := by
  obtain ⟨aa, bb, cc, bc, ac, ab⟩ := m
  obtain ⟨h1, h2, h3, h4, h5, h6, h7, h8, h9, h10, h11, h12, _, _, _⟩ := h
  unfold tr3
  dsimp only at *
  omega
theorem h_min {m : Met} {a : Int} (h : IsMin m a) : IsMin m a := h
set_option maxHeartbeats 12800000 in
set_option maxRecDepth 100000 in
theorem DocShortest_run (m : Met) (w : World) (h : chk m = 0):
    Calls Try.prog 16 #[.agg #[.int .i64 m.aa, .int .i64 m.bb, .int .i64 m.cc, .int .i64 m.bc, .int .i64 m.ac, .int .i64 m.ab]] w fun e w' => (∃ n : Int, IsMin m n ∧ e = .returned (.tuple #[.int .i64 n, .int .i64 0])) ∧ Below w.heap.size w w' := by
  have hck := chk_ok h
  have st0 : St m m := ⟨fun x y z q => hck.spd x y z q, tr_chk hck, fun _ q => q⟩
  clear hck
  have E := Lib.hid h; clear h
  go_enter Try.func16, Try.ntmps16
  go_wp2_with fail
  refine (to_v (congrArg (Value.int .i64) E.out) (dcheck_any _ _ _ _ _ _ _)).mono ?_
  rintro e w1 ⟨rfl, hb1⟩
  obtain ⟨hc1, hf1⟩ := bcell hb1
  have hz1 := hb1.size
  try simp at hz1
  have z1_0 : w.heap.size < w1.heap.size := by omega
  go_wp2
  go_loopw [6] (fun t wr => ∃ (g : Met) (b : Bool), t = .bool b ∧ St m g ∧ CI w w.heap.size w1.heap.size g wr ∧ (b = false → PI3 3 g)) (fun t wr => 2 * (trW wr w1.heap.size).toNat + bN t)
  case atStart =>
    refine ⟨m, true, rfl, st0, ?_, fun hb => by cases hb⟩
    constructor
    · repeat (first | exact Below.refl _ _ | assumption | exact Below.alloc (Below.refl _ _) (Nat.le_refl _) _ | refine Below.setCell ?_ (by first | (simp; done) | (simp; omega) | omega) _ | refine below_drewN ?_ _ | refine Below.alloc ?_ (by first | (simp; done) | (simp; omega) | omega) _ | refine Below.trans ?_ (Below.mono (by assumption) (by first | (simp; done) | (simp; omega) | omega)))
    · first | (simp; done) | (simp; omega) | omega
    · omega
    · intro o; go_simp
    all_goals first | (go_simp; done) | (go_simp; rfl)
  case round =>
    obtain ⟨g0, b, rfl, hst, hci, hend⟩ := hrel
    have ht0 := hci.tr
    try clear hb1 hc1 hf1 hz1 st0 E
    cases b
    · have hx := hst.mn _ (end_min (pi_end (hend rfl)))
      have HX := Lib.hid hx
      clear hx hend
      obtain ⟨below, zg, zB, fz, c0, c1, c2, c3, c4, c5, c6, c7, c8⟩ := hci
      go_wp2
      refine bodyPost_ret (v := .tuple #[.int .i64 (min (min g0.aa g0.bb) g0.cc), .int .i64 0]) (by simp [results, Try.results16, go_sem, *]) rfl ⟨⟨_, h_min HX.out, rfl⟩, ?_⟩
      repeat (first | exact Below.refl _ _ | assumption | exact Below.alloc (Below.refl _ _) (Nat.le_refl _) _ | refine Below.setCell ?_ (by first | (simp; done) | (simp; omega) | omega) _ | refine below_drewN ?_ _ | refine Below.alloc ?_ (by first | (simp; done) | (simp; omega) | omega) _ | refine Below.trans ?_ (Below.mono (by assumption) (by first | (simp; done) | (simp; omega) | omega)))
    · clear hend
      obtain ⟨below, zg, zB, fz, c0, c1, c2, c3, c4, c5, c6, c7, c8⟩ := hci
      have zb := below.size
      have qq : w.heap.size < wr.heap.size := by omega
      go_wp2
      go_loopw [7, 6] (fun i t wr => ∃ (ii : Nat) (g : Met) (b : Bool), ii ≤ 3 ∧ i = .int .i64 ii ∧ t = .bool b ∧ St m g ∧ CI w w.heap.size w1.heap.size g wr ∧ (b = true → tr3 g < tr3 g0) ∧ (b = false → g = g0 ∧ PI3 ii g0)) (fun i _ _ => 3 - (intOf i).toNat)
      case atStart =>
        refine ⟨0, g0, false, by omega, rfl, rfl, hst, ?_, fun hb => (by cases hb), fun _ => ⟨rfl, ?_⟩⟩
        · constructor
          · repeat (first | exact Below.refl _ _ | assumption | exact Below.alloc (Below.refl _ _) (Nat.le_refl _) _ | refine Below.setCell ?_ (by first | (simp; done) | (simp; omega) | omega) _ | refine below_drewN ?_ _ | refine Below.alloc ?_ (by first | (simp; done) | (simp; omega) | omega) _ | refine Below.trans ?_ (Below.mono (by assumption) (by first | (simp; done) | (simp; omega) | omega)))
          · first | (simp; done) | (simp; omega) | omega
          · omega
          · intro o; go_simp
          all_goals first | (go_simp; done) | (go_simp; rfl)
        · unfold PI3; exact ⟨fun hh => absurd hh (by omega), fun hh => absurd hh (by omega), fun hh => absurd hh (by omega)⟩
      case round =>
        clear below zg zb qq fz hst c0 c1 c2 c3 c4 c5 c6 c7 c8
        obtain ⟨ii, g, b, hk, rfl, rfl, hst, hci, hlt, hno⟩ := hrel
        obtain ⟨below, zg, zB, fz, c0, c1, c2, c3, c4, c5, c6, c7, c8⟩ := hci
        have zb := below.size
        have qq : w.heap.size < wr.heap.size := by omega
        rcases (by omega : ii = 0 ∨ ii = 1 ∨ ii = 2 ∨ ii = 3) with rfl | rfl | rfl | rfl
        · try simp only [show ((0 : Nat) : Int) = 0 from rfl, show ((1 : Nat) : Int) = 1 from rfl, show ((2 : Nat) : Int) = 2 from rfl, show ((3 : Nat) : Int) = 3 from rfl, show ((4 : Nat) : Int) = 4 from rfl]
          go_wp2
          go_loopw [8, 6] (fun j t wr => ∃ (jj : Nat) (g : Met) (b : Bool), jj ≤ 3 ∧ j = .int .i64 jj ∧ t = .bool b ∧ St m g ∧ CI w w.heap.size w1.heap.size g wr ∧ (b = true → tr3 g < tr3 g0) ∧ (b = false → g = g0 ∧ PI3 0 g0 ∧ PJ0 jj g0)) (fun j _ _ => 3 - (intOf j).toNat)
          case atStart =>
            refine ⟨0, g, b, by omega, rfl, rfl, hst, ?_, hlt, fun hb => ?_⟩
            · constructor
              · repeat (first | exact Below.refl _ _ | assumption | exact Below.alloc (Below.refl _ _) (Nat.le_refl _) _ | refine Below.setCell ?_ (by first | (simp; done) | (simp; omega) | omega) _ | refine below_drewN ?_ _ | refine Below.alloc ?_ (by first | (simp; done) | (simp; omega) | omega) _ | refine Below.trans ?_ (Below.mono (by assumption) (by first | (simp; done) | (simp; omega) | omega)))
              · first | (simp; done) | (simp; omega) | omega
              · omega
              · intro o; go_simp
              all_goals first | (go_simp; done) | (go_simp; rfl)
            · obtain ⟨e, p⟩ := hno hb
              refine ⟨e, p, ?_⟩
              unfold PJ0
              exact ⟨fun hh => absurd hh (by omega), fun hh => absurd hh (by omega)⟩
          case round =>
            clear below zg zb qq fz hst hlt hno c0 c1 c2 c3 c4 c5 c6 c7 c8
            obtain ⟨jj, g, b, hk, rfl, rfl, hst, hci, hlt, hno⟩ := hrel
            obtain ⟨below, zg, zB, fz, c0, c1, c2, c3, c4, c5, c6, c7, c8⟩ := hci
            have zb := below.size
            have qq : w.heap.size < wr.heap.size := by omega
            rcases (by omega : jj = 0 ∨ jj = 1 ∨ jj = 2 ∨ jj = 3) with rfl | rfl | rfl | rfl
            · try simp only [show ((0 : Nat) : Int) = 0 from rfl, show ((1 : Nat) : Int) = 1 from rfl, show ((2 : Nat) : Int) = 2 from rfl, show ((3 : Nat) : Int) = 3 from rfl, show ((4 : Nat) : Int) = 4 from rfl]
              go_wp2
              go_roundw
              case rel =>
                refine ⟨1, g, b, by omega, by go_num, rfl, hst, ?_, hlt, fun hb => by
                  obtain ⟨e, p, q⟩ := hno hb
                  refine ⟨e, p, ?_⟩
                  unfold PJ0 at *
                  exact ⟨fun _ => q.1 (by omega), fun _ => q.2 (by omega)⟩⟩
                constructor
                · repeat (first | exact Below.refl _ _ | assumption | exact Below.alloc (Below.refl _ _) (Nat.le_refl _) _ | refine Below.setCell ?_ (by first | (simp; done) | (simp; omega) | omega) _ | refine below_drewN ?_ _ | refine Below.alloc ?_ (by first | (simp; done) | (simp; omega) | omega) _ | refine Below.trans ?_ (Below.mono (by assumption) (by first | (simp; done) | (simp; omega) | omega)))
                · first | (simp; done) | (simp; omega) | omega
                · omega
                · intro o; go_simp
                all_goals first | (go_simp; done) | (go_simp; rfl)
              case measure => simp [intOf] <;> omega
            · try simp only [show ((0 : Nat) : Int) = 0 from rfl, show ((1 : Nat) : Int) = 1 from rfl, show ((2 : Nat) : Int) = 2 from rfl, show ((3 : Nat) : Int) = 3 from rfl, show ((4 : Nat) : Int) = 4 from rfl]
              obtain ⟨r, rb, RO, BE, AD, hk, hs⟩ := stepR_01 hst
              obtain ⟨g1, eg⟩ : ∃ q, q = ad01 (-r) g := ⟨_, rfl⟩
              rw [← eg] at BE AD hk hs
              clear eg
              have hw : wrap64 (-r) = -r := wrapE (by omega) (by omega)
              have HRO := Lib.hid RO; have HBE := Lib.hid BE; have HAD := Lib.hid AD; clear RO BE AD
              have HK := Lib.hid hk; have HS := Lib.hid hs; clear hk hs
              rcases Classical.em (r = 0) with hr | hr
              · have hkk := HK.out (Or.inl hr)
                have hr1 : (r != 0) = false := by simp [hr]
                have hr2 : (r == 0) = true := by simp [hr]
                clear HK HS
                go_wp2
                refine region_head 11 (by kernel_rfl) (by kernel_rfl) ?_
                simp only [List.take_succ_cons, List.take_zero, List.drop_succ_cons, List.drop_zero]
                repeat (go_big_quiet_step ((go_at_call 48; exact held_of _ (Nat.le_refl _) (HRO.out _))))
                refine wpQuiet_nil ?_
                rintro x1 ⟨⟨w0, hbx1⟩, rfl⟩
                obtain ⟨hcx1, hfx1⟩ := bcell hbx1
                have hzx1 := hbx1.size
                try simp at hzx1
                have zx1_0 : w.heap.size < x1.heap.size := by omega
                have zx1_1 : w1.heap.size < x1.heap.size := by omega
                clear HBE HAD
                go_wp2
                go_roundw
                case rel =>
                  refine ⟨2, g, b, by omega, by go_num, rfl, hst, ?_, hlt, fun hb => by
                    obtain ⟨e, p, q⟩ := hno hb
                    refine ⟨e, p, ?_⟩
                    rw [← e]
                    rw [← e] at q
                    unfold PJ0 at *
                    exact ⟨fun _ => hkk, fun hh => absurd hh (by omega)⟩⟩
                  constructor
                  · repeat (first | exact Below.refl _ _ | assumption | exact Below.alloc (Below.refl _ _) (Nat.le_refl _) _ | refine Below.setCell ?_ (by first | (simp; done) | (simp; omega) | omega) _ | refine below_drewN ?_ _ | refine Below.alloc ?_ (by first | (simp; done) | (simp; omega) | omega) _ | refine Below.trans ?_ (Below.mono (by assumption) (by first | (simp; done) | (simp; omega) | omega)))
                  · first | (simp; done) | (simp; omega) | omega
                  · omega
                  · intro o; go_simp
                  all_goals first | (go_simp; done) | (go_simp; rfl)
                case measure => simp [intOf] <;> omega
              · have hr1 : (r != 0) = true := by simp [hr]
                have hr2 : (r == 0) = false := by rw [beq_eq_false_iff_ne]; exact hr
                go_wp2
                refine region_head 11 (by kernel_rfl) (by kernel_rfl) ?_
                simp only [List.take_succ_cons, List.take_zero, List.drop_succ_cons, List.drop_zero]
                repeat (go_big_quiet_step ((go_at_call 48; exact held_of _ (Nat.le_refl _) (HRO.out _))))
                refine wpQuiet_nil ?_
                rintro x1 ⟨⟨w0, hbx1⟩, rfl⟩
                obtain ⟨hcx1, hfx1⟩ := bcell hbx1
                have hzx1 := hbx1.size
                try simp at hzx1
                have zx1_0 : w.heap.size < x1.heap.size := by omega
                have zx1_1 : w1.heap.size < x1.heap.size := by omega
                rcases Classical.em (g1.aa < g.aa) with hbt | hbt
                · have hd : decide (g1.aa < g.aa) = true := decide_eq_true hbt
                  rw [hd] at HBE
                  clear hd
                  obtain ⟨hst1, htr⟩ := HS.out hbt
                  have hlt2 : tr3 g1 < tr3 g0 := by
                    cases b with
                    | true => have := hlt rfl; omega
                    | false => obtain ⟨e, _⟩ := hno rfl; rw [← e]; exact htr
                  clear HK
                  go_wp2_with fail
                  refine (HBE.out _).mono ?_
                  rintro e w2 ⟨rfl, hb2⟩
                  obtain ⟨hc2, hf2⟩ := bcell hb2
                  have hz2 := hb2.size
                  try simp at hz2
                  have z2_0 : w.heap.size < w2.heap.size := by omega
                  have z2_1 : w1.heap.size < w2.heap.size := by omega
                  go_wp2_with fail
                  refine (HAD.out _).mono ?_
                  rintro e w3 ⟨rfl, hb3⟩
                  obtain ⟨hc3, hf3⟩ := bcell hb3
                  have hz3 := hb3.size
                  try simp at hz3
                  have z3_0 : w.heap.size < w3.heap.size := by omega
                  have z3_1 : w1.heap.size < w3.heap.size := by omega
                  go_wp2
                  go_roundw
                  case rel =>
                    refine ⟨2, g1, true, by omega, by go_num, rfl, hst1, ?_, fun _ => hlt2, fun hb => (by cases hb)⟩
                    constructor
                    · repeat (first | exact Below.refl _ _ | assumption | exact Below.alloc (Below.refl _ _) (Nat.le_refl _) _ | refine Below.setCell ?_ (by first | (simp; done) | (simp; omega) | omega) _ | refine below_drewN ?_ _ | refine Below.alloc ?_ (by first | (simp; done) | (simp; omega) | omega) _ | refine Below.trans ?_ (Below.mono (by assumption) (by first | (simp; done) | (simp; omega) | omega)))
                    · first | (simp; done) | (simp; omega) | omega
                    · omega
                    · intro o; go_simp
                    all_goals first | (go_simp; done) | (go_simp; rfl)
                  case measure => simp [intOf] <;> omega
                · have hd : decide (g1.aa < g.aa) = false := decide_eq_false hbt
                  rw [hd] at HBE
                  clear hd
                  have hkk := HK.out (Or.inr (by omega))
                  clear HK HS
                  go_wp2_with fail
                  refine (HBE.out _).mono ?_
                  rintro e w2 ⟨rfl, hb2⟩
                  obtain ⟨hc2, hf2⟩ := bcell hb2
                  have hz2 := hb2.size
                  try simp at hz2
                  have z2_0 : w.heap.size < w2.heap.size := by omega
                  have z2_1 : w1.heap.size < w2.heap.size := by omega
                  go_wp2
                  go_roundw
                  case rel =>
                    refine ⟨2, g, b, by omega, by go_num, rfl, hst, ?_, hlt, fun hb => by
                      obtain ⟨e, p, q⟩ := hno hb
                      refine ⟨e, p, ?_⟩
                      rw [← e]
                      rw [← e] at q
                      unfold PJ0 at *
                      exact ⟨fun _ => hkk, fun hh => absurd hh (by omega)⟩⟩
                    constructor
                    · repeat (first | exact Below.refl _ _ | assumption | exact Below.alloc (Below.refl _ _) (Nat.le_refl _) _ | refine Below.setCell ?_ (by first | (simp; done) | (simp; omega) | omega) _ | refine below_drewN ?_ _ | refine Below.alloc ?_ (by first | (simp; done) | (simp; omega) | omega) _ | refine Below.trans ?_ (Below.mono (by assumption) (by first | (simp; done) | (simp; omega) | omega)))
                    · first | (simp; done) | (simp; omega) | omega
                    · omega
                    · intro o; go_simp
                    all_goals first | (go_simp; done) | (go_simp; rfl)
                  case measure => simp [intOf] <;> omega
            · try simp only [show ((0 : Nat) : Int) = 0 from rfl, show ((1 : Nat) : Int) = 1 from rfl, show ((2 : Nat) : Int) = 2 from rfl, show ((3 : Nat) : Int) = 3 from rfl, show ((4 : Nat) : Int) = 4 from rfl]
              obtain ⟨r, rb, RO, BE, AD, hk, hs⟩ := stepR_02 hst
              obtain ⟨g1, eg⟩ : ∃ q, q = ad02 (-r) g := ⟨_, rfl⟩
              rw [← eg] at BE AD hk hs
              clear eg
              have hw : wrap64 (-r) = -r := wrapE (by omega) (by omega)
              have HRO := Lib.hid RO; have HBE := Lib.hid BE; have HAD := Lib.hid AD; clear RO BE AD
              have HK := Lib.hid hk; have HS := Lib.hid hs; clear hk hs
              rcases Classical.em (r = 0) with hr | hr
              · have hkk := HK.out (Or.inl hr)
                have hr1 : (r != 0) = false := by simp [hr]
                have hr2 : (r == 0) = true := by simp [hr]
                clear HK HS
                go_wp2
                refine region_head 11 (by kernel_rfl) (by kernel_rfl) ?_
                simp only [List.take_succ_cons, List.take_zero, List.drop_succ_cons, List.drop_zero]
                repeat (go_big_quiet_step ((go_at_call 48; exact held_of _ (Nat.le_refl _) (HRO.out _))))
                refine wpQuiet_nil ?_
                rintro x1 ⟨⟨w0, hbx1⟩, rfl⟩
                obtain ⟨hcx1, hfx1⟩ := bcell hbx1
                have hzx1 := hbx1.size
                try simp at hzx1
                have zx1_0 : w.heap.size < x1.heap.size := by omega
                have zx1_1 : w1.heap.size < x1.heap.size := by omega
                clear HBE HAD
                go_wp2
                go_roundw
                case rel =>
                  refine ⟨3, g, b, by omega, by go_num, rfl, hst, ?_, hlt, fun hb => by
                    obtain ⟨e, p, q⟩ := hno hb
                    refine ⟨e, p, ?_⟩
                    rw [← e]
                    rw [← e] at q
                    unfold PJ0 at *
                    exact ⟨fun _ => q.1 (by omega), fun _ => hkk⟩⟩
                  constructor
                  · repeat (first | exact Below.refl _ _ | assumption | exact Below.alloc (Below.refl _ _) (Nat.le_refl _) _ | refine Below.setCell ?_ (by first | (simp; done) | (simp; omega) | omega) _ | refine below_drewN ?_ _ | refine Below.alloc ?_ (by first | (simp; done) | (simp; omega) | omega) _ | refine Below.trans ?_ (Below.mono (by assumption) (by first | (simp; done) | (simp; omega) | omega)))
                  · first | (simp; done) | (simp; omega) | omega
                  · omega
                  · intro o; go_simp
                  all_goals first | (go_simp; done) | (go_simp; rfl)
                case measure => simp [intOf] <;> omega
              · have hr1 : (r != 0) = true := by simp [hr]
                have hr2 : (r == 0) = false := by rw [beq_eq_false_iff_ne]; exact hr
                go_wp2
                refine region_head 11 (by kernel_rfl) (by kernel_rfl) ?_
                simp only [List.take_succ_cons, List.take_zero, List.drop_succ_cons, List.drop_zero]
                repeat (go_big_quiet_step ((go_at_call 48; exact held_of _ (Nat.le_refl _) (HRO.out _))))
                refine wpQuiet_nil ?_
                rintro x1 ⟨⟨w0, hbx1⟩, rfl⟩
                obtain ⟨hcx1, hfx1⟩ := bcell hbx1
                have hzx1 := hbx1.size
                try simp at hzx1
                have zx1_0 : w.heap.size < x1.heap.size := by omega
                have zx1_1 : w1.heap.size < x1.heap.size := by omega
                rcases Classical.em (g1.aa < g.aa) with hbt | hbt
                · have hd : decide (g1.aa < g.aa) = true := decide_eq_true hbt
                  rw [hd] at HBE
                  clear hd
                  obtain ⟨hst1, htr⟩ := HS.out hbt
                  have hlt2 : tr3 g1 < tr3 g0 := by
                    cases b with
                    | true => have := hlt rfl; omega
                    | false => obtain ⟨e, _⟩ := hno rfl; rw [← e]; exact htr
                  clear HK
                  go_wp2_with fail
                  refine (HBE.out _).mono ?_
                  rintro e w2 ⟨rfl, hb2⟩
                  obtain ⟨hc2, hf2⟩ := bcell hb2
                  have hz2 := hb2.size
                  try simp at hz2
                  have z2_0 : w.heap.size < w2.heap.size := by omega
                  have z2_1 : w1.heap.size < w2.heap.size := by omega
                  go_wp2_with fail
                  refine (HAD.out _).mono ?_
                  rintro e w3 ⟨rfl, hb3⟩
                  obtain ⟨hc3, hf3⟩ := bcell hb3
                  have hz3 := hb3.size
                  try simp at hz3
                  have z3_0 : w.heap.size < w3.heap.size := by omega
                  have z3_1 : w1.heap.size < w3.heap.size := by omega
                  go_wp2
                  go_roundw
                  case rel =>
                    refine ⟨3, g1, true, by omega, by go_num, rfl, hst1, ?_, fun _ => hlt2, fun hb => (by cases hb)⟩
                    constructor
                    · repeat (first | exact Below.refl _ _ | assumption | exact Below.alloc (Below.refl _ _) (Nat.le_refl _) _ | refine Below.setCell ?_ (by first | (simp; done) | (simp; omega) | omega) _ | refine below_drewN ?_ _ | refine Below.alloc ?_ (by first | (simp; done) | (simp; omega) | omega) _ | refine Below.trans ?_ (Below.mono (by assumption) (by first | (simp; done) | (simp; omega) | omega)))
                    · first | (simp; done) | (simp; omega) | omega
                    · omega
                    · intro o; go_simp
                    all_goals first | (go_simp; done) | (go_simp; rfl)
                  case measure => simp [intOf] <;> omega
                · have hd : decide (g1.aa < g.aa) = false := decide_eq_false hbt
                  rw [hd] at HBE
                  clear hd
                  have hkk := HK.out (Or.inr (by omega))
                  clear HK HS
                  go_wp2_with fail
                  refine (HBE.out _).mono ?_
                  rintro e w2 ⟨rfl, hb2⟩
                  obtain ⟨hc2, hf2⟩ := bcell hb2
                  have hz2 := hb2.size
                  try simp at hz2
                  have z2_0 : w.heap.size < w2.heap.size := by omega
                  have z2_1 : w1.heap.size < w2.heap.size := by omega
                  go_wp2
                  go_roundw
                  case rel =>
                    refine ⟨3, g, b, by omega, by go_num, rfl, hst, ?_, hlt, fun hb => by
                      obtain ⟨e, p, q⟩ := hno hb
                      refine ⟨e, p, ?_⟩
                      rw [← e]
                      rw [← e] at q
                      unfold PJ0 at *
                      exact ⟨fun _ => q.1 (by omega), fun _ => hkk⟩⟩
                    constructor
                    · repeat (first | exact Below.refl _ _ | assumption | exact Below.alloc (Below.refl _ _) (Nat.le_refl _) _ | refine Below.setCell ?_ (by first | (simp; done) | (simp; omega) | omega) _ | refine below_drewN ?_ _ | refine Below.alloc ?_ (by first | (simp; done) | (simp; omega) | omega) _ | refine Below.trans ?_ (Below.mono (by assumption) (by first | (simp; done) | (simp; omega) | omega)))
                    · first | (simp; done) | (simp; omega) | omega
                    · omega
                    · intro o; go_simp
                    all_goals first | (go_simp; done) | (go_simp; rfl)
                  case measure => simp [intOf] <;> omega
            · try simp only [show ((0 : Nat) : Int) = 0 from rfl, show ((1 : Nat) : Int) = 1 from rfl, show ((2 : Nat) : Int) = 2 from rfl, show ((3 : Nat) : Int) = 3 from rfl, show ((4 : Nat) : Int) = 4 from rfl]
              go_wp2
              go_loopw [12, 6] (fun n t wr => ∃ (nn : Nat) (g : Met) (b : Bool), nn ≤ 4 ∧ n = .int .i64 nn ∧ t = .bool b ∧ St m g ∧ CI w w.heap.size w1.heap.size g wr ∧ (b = true → tr3 g < tr3 g0) ∧ (b = false → g = g0 ∧ PI3 0 g0 ∧ PJ0 3 g0 ∧ PN0 nn g0)) (fun n _ _ => 4 - (intOf n).toNat)
              case atStart =>
                refine ⟨0, g, b, by omega, rfl, rfl, hst, ?_, hlt, fun hb => ?_⟩
                · constructor
                  · repeat (first | exact Below.refl _ _ | assumption | exact Below.alloc (Below.refl _ _) (Nat.le_refl _) _ | refine Below.setCell ?_ (by first | (simp; done) | (simp; omega) | omega) _ | refine below_drewN ?_ _ | refine Below.alloc ?_ (by first | (simp; done) | (simp; omega) | omega) _ | refine Below.trans ?_ (Below.mono (by assumption) (by first | (simp; done) | (simp; omega) | omega)))
                  · first | (simp; done) | (simp; omega) | omega
                  · omega
                  · intro o; go_simp
                  all_goals first | (go_simp; done) | (go_simp; rfl)
                · obtain ⟨e, p, q⟩ := hno hb
                  refine ⟨e, p, q, ?_⟩
                  unfold PN0
                  exact ⟨fun hh => absurd hh (by omega), fun hh => absurd hh (by omega), fun hh => absurd hh (by omega), fun hh => absurd hh (by omega)⟩
              case round =>
                clear below zg zb qq fz hst hlt hno c0 c1 c2 c3 c4 c5 c6 c7 c8
                obtain ⟨nn, g, b, hk, rfl, rfl, hst, hci, hlt, hno⟩ := hrel
                obtain ⟨below, zg, zB, fz, c0, c1, c2, c3, c4, c5, c6, c7, c8⟩ := hci
                have zb := below.size
                have qq : w.heap.size < wr.heap.size := by omega
                rcases (by omega : nn = 0 ∨ nn = 1 ∨ nn = 2 ∨ nn = 3 ∨ nn = 4) with rfl | rfl | rfl | rfl | rfl
                · try simp only [show ((0 : Nat) : Int) = 0 from rfl, show ((1 : Nat) : Int) = 1 from rfl, show ((2 : Nat) : Int) = 2 from rfl, show ((3 : Nat) : Int) = 3 from rfl, show ((4 : Nat) : Int) = 4 from rfl]
                  obtain ⟨BE, AD, AE, hk, hs⟩ := stepS_00 hst
                  obtain ⟨g1, eg1⟩ : ∃ q, q = ad01 (-1) g := ⟨_, rfl⟩
                  rw [← eg1] at BE AD AE hk hs
                  obtain ⟨g2, eg2⟩ : ∃ q, q = ad02 (-1) g1 := ⟨_, rfl⟩
                  rw [← eg2] at BE AE hk hs
                  clear eg1 eg2
                  have HBE := Lib.hid BE; have HAD := Lib.hid AD; have HAE := Lib.hid AE; clear BE AD AE
                  have HK := Lib.hid hk; have HS := Lib.hid hs; clear hk hs
                  rcases Classical.em (g2.aa < g.aa) with hbt | hbt
                  · have hd : decide (g2.aa < g.aa) = true := decide_eq_true hbt
                    rw [hd] at HBE
                    clear hd
                    obtain ⟨hst1, htr⟩ := HS.out hbt
                    have hlt2 : tr3 g2 < tr3 g0 := by
                      cases b with
                      | true => have := hlt rfl; omega
                      | false => obtain ⟨e, _⟩ := hno rfl; rw [← e]; exact htr
                    clear HK
                    go_wp2_with fail
                    refine (HBE.out _).mono ?_
                    rintro e w2 ⟨rfl, hb2⟩
                    obtain ⟨hc2, hf2⟩ := bcell hb2
                    have hz2 := hb2.size
                    try simp at hz2
                    have z2_0 : w.heap.size < w2.heap.size := by omega
                    have z2_1 : w1.heap.size < w2.heap.size := by omega
                    go_wp2_with fail
                    refine (HAD.out _).mono ?_
                    rintro e w3 ⟨rfl, hb3⟩
                    obtain ⟨hc3, hf3⟩ := bcell hb3
                    have hz3 := hb3.size
                    try simp at hz3
                    have z3_0 : w.heap.size < w3.heap.size := by omega
                    have z3_1 : w1.heap.size < w3.heap.size := by omega
                    go_wp2_with fail
                    refine (HAE.out _).mono ?_
                    rintro e w4 ⟨rfl, hb4⟩
                    obtain ⟨hc4, hf4⟩ := bcell hb4
                    have hz4 := hb4.size
                    try simp at hz4
                    have z4_0 : w.heap.size < w4.heap.size := by omega
                    have z4_1 : w1.heap.size < w4.heap.size := by omega
                    go_wp2
                    go_roundw
                    case rel =>
                      refine ⟨1, g2, true, by omega, by go_num, rfl, hst1, ?_, fun _ => hlt2, fun hb => (by cases hb)⟩
                      constructor
                      · repeat (first | exact Below.refl _ _ | assumption | exact Below.alloc (Below.refl _ _) (Nat.le_refl _) _ | refine Below.setCell ?_ (by first | (simp; done) | (simp; omega) | omega) _ | refine below_drewN ?_ _ | refine Below.alloc ?_ (by first | (simp; done) | (simp; omega) | omega) _ | refine Below.trans ?_ (Below.mono (by assumption) (by first | (simp; done) | (simp; omega) | omega)))
                      · first | (simp; done) | (simp; omega) | omega
                      · omega
                      · intro o; go_simp
                      all_goals first | (go_simp; done) | (go_simp; rfl)
                    case measure => simp [intOf] <;> omega
                  · have hd : decide (g2.aa < g.aa) = false := decide_eq_false hbt
                    rw [hd] at HBE
                    clear hd
                    have hkk := HK.out (by omega)
                    clear HK HS
                    go_wp2_with fail
                    refine (HBE.out _).mono ?_
                    rintro e w2 ⟨rfl, hb2⟩
                    obtain ⟨hc2, hf2⟩ := bcell hb2
                    have hz2 := hb2.size
                    try simp at hz2
                    have z2_0 : w.heap.size < w2.heap.size := by omega
                    have z2_1 : w1.heap.size < w2.heap.size := by omega
                    go_wp2
                    go_roundw
                    case rel =>
                      refine ⟨1, g, b, by omega, by go_num, rfl, hst, ?_, hlt, fun hb => by
                        obtain ⟨e, p, q, s⟩ := hno hb
                        refine ⟨e, p, q, ?_⟩
                        rw [← e]
                        rw [← e] at s
                        unfold PN0 at *
                        obtain ⟨q0, q1, q2, q3⟩ := s
                        exact ⟨fun _ => hkk, fun hh => absurd hh (by omega), fun hh => absurd hh (by omega), fun hh => absurd hh (by omega)⟩⟩
                      constructor
                      · repeat (first | exact Below.refl _ _ | assumption | exact Below.alloc (Below.refl _ _) (Nat.le_refl _) _ | refine Below.setCell ?_ (by first | (simp; done) | (simp; omega) | omega) _ | refine below_drewN ?_ _ | refine Below.alloc ?_ (by first | (simp; done) | (simp; omega) | omega) _ | refine Below.trans ?_ (Below.mono (by assumption) (by first | (simp; done) | (simp; omega) | omega)))
                      · first | (simp; done) | (simp; omega) | omega
                      · omega
                      · intro o; go_simp
                      all_goals first | (go_simp; done) | (go_simp; rfl)
                    case measure => simp [intOf] <;> omega
                · try simp only [show ((0 : Nat) : Int) = 0 from rfl, show ((1 : Nat) : Int) = 1 from rfl, show ((2 : Nat) : Int) = 2 from rfl, show ((3 : Nat) : Int) = 3 from rfl, show ((4 : Nat) : Int) = 4 from rfl]
                  obtain ⟨BE, AD, AE, hk, hs⟩ := stepS_01 hst
                  obtain ⟨g1, eg1⟩ : ∃ q, q = ad01 (1) g := ⟨_, rfl⟩
                  rw [← eg1] at BE AD AE hk hs
                  obtain ⟨g2, eg2⟩ : ∃ q, q = ad02 (-1) g1 := ⟨_, rfl⟩
                  rw [← eg2] at BE AE hk hs
                  clear eg1 eg2
                  have HBE := Lib.hid BE; have HAD := Lib.hid AD; have HAE := Lib.hid AE; clear BE AD AE
                  have HK := Lib.hid hk; have HS := Lib.hid hs; clear hk hs
                  rcases Classical.em (g2.aa < g.aa) with hbt | hbt
                  · have hd : decide (g2.aa < g.aa) = true := decide_eq_true hbt
                    rw [hd] at HBE
                    clear hd
                    obtain ⟨hst1, htr⟩ := HS.out hbt
                    have hlt2 : tr3 g2 < tr3 g0 := by
                      cases b with
                      | true => have := hlt rfl; omega
                      | false => obtain ⟨e, _⟩ := hno rfl; rw [← e]; exact htr
                    clear HK
                    go_wp2_with fail
                    refine (HBE.out _).mono ?_
                    rintro e w2 ⟨rfl, hb2⟩
                    obtain ⟨hc2, hf2⟩ := bcell hb2
                    have hz2 := hb2.size
                    try simp at hz2
                    have z2_0 : w.heap.size < w2.heap.size := by omega
                    have z2_1 : w1.heap.size < w2.heap.size := by omega
                    go_wp2_with fail
                    refine (HAD.out _).mono ?_
                    rintro e w3 ⟨rfl, hb3⟩
                    obtain ⟨hc3, hf3⟩ := bcell hb3
                    have hz3 := hb3.size
                    try simp at hz3
                    have z3_0 : w.heap.size < w3.heap.size := by omega
                    have z3_1 : w1.heap.size < w3.heap.size := by omega
                    go_wp2_with fail
                    refine (HAE.out _).mono ?_
                    rintro e w4 ⟨rfl, hb4⟩
                    obtain ⟨hc4, hf4⟩ := bcell hb4
                    have hz4 := hb4.size
                    try simp at hz4
                    have z4_0 : w.heap.size < w4.heap.size := by omega
                    have z4_1 : w1.heap.size < w4.heap.size := by omega
                    go_wp2
                    go_roundw
                    case rel =>
                      refine ⟨2, g2, true, by omega, by go_num, rfl, hst1, ?_, fun _ => hlt2, fun hb => (by cases hb)⟩
                      constructor
                      · repeat (first | exact Below.refl _ _ | assumption | exact Below.alloc (Below.refl _ _) (Nat.le_refl _) _ | refine Below.setCell ?_ (by first | (simp; done) | (simp; omega) | omega) _ | refine below_drewN ?_ _ | refine Below.alloc ?_ (by first | (simp; done) | (simp; omega) | omega) _ | refine Below.trans ?_ (Below.mono (by assumption) (by first | (simp; done) | (simp; omega) | omega)))
                      · first | (simp; done) | (simp; omega) | omega
                      · omega
                      · intro o; go_simp
                      all_goals first | (go_simp; done) | (go_simp; rfl)
                    case measure => simp [intOf] <;> omega
                  · have hd : decide (g2.aa < g.aa) = false := decide_eq_false hbt
                    rw [hd] at HBE
                    clear hd
                    have hkk := HK.out (by omega)
                    clear HK HS
                    go_wp2_with fail
                    refine (HBE.out _).mono ?_
                    rintro e w2 ⟨rfl, hb2⟩
                    obtain ⟨hc2, hf2⟩ := bcell hb2
                    have hz2 := hb2.size
                    try simp at hz2
                    have z2_0 : w.heap.size < w2.heap.size := by omega
                    have z2_1 : w1.heap.size < w2.heap.size := by omega
                    go_wp2
                    go_roundw
                    case rel =>
                      refine ⟨2, g, b, by omega, by go_num, rfl, hst, ?_, hlt, fun hb => by
                        obtain ⟨e, p, q, s⟩ := hno hb
                        refine ⟨e, p, q, ?_⟩
                        rw [← e]
                        rw [← e] at s
                        unfold PN0 at *
                        obtain ⟨q0, q1, q2, q3⟩ := s
                        exact ⟨fun _ => q0 (by omega), fun _ => hkk, fun hh => absurd hh (by omega), fun hh => absurd hh (by omega)⟩⟩
                      constructor
                      · repeat (first | exact Below.refl _ _ | assumption | exact Below.alloc (Below.refl _ _) (Nat.le_refl _) _ | refine Below.setCell ?_ (by first | (simp; done) | (simp; omega) | omega) _ | refine below_drewN ?_ _ | refine Below.alloc ?_ (by first | (simp; done) | (simp; omega) | omega) _ | refine Below.trans ?_ (Below.mono (by assumption) (by first | (simp; done) | (simp; omega) | omega)))
                      · first | (simp; done) | (simp; omega) | omega
                      · omega
                      · intro o; go_simp
                      all_goals first | (go_simp; done) | (go_simp; rfl)
                    case measure => simp [intOf] <;> omega
                · try simp only [show ((0 : Nat) : Int) = 0 from rfl, show ((1 : Nat) : Int) = 1 from rfl, show ((2 : Nat) : Int) = 2 from rfl, show ((3 : Nat) : Int) = 3 from rfl, show ((4 : Nat) : Int) = 4 from rfl]
                  obtain ⟨BE, AD, AE, hk, hs⟩ := stepS_02 hst
                  obtain ⟨g1, eg1⟩ : ∃ q, q = ad01 (-1) g := ⟨_, rfl⟩
                  rw [← eg1] at BE AD AE hk hs
                  obtain ⟨g2, eg2⟩ : ∃ q, q = ad02 (1) g1 := ⟨_, rfl⟩
                  rw [← eg2] at BE AE hk hs
                  clear eg1 eg2
                  have HBE := Lib.hid BE; have HAD := Lib.hid AD; have HAE := Lib.hid AE; clear BE AD AE
                  have HK := Lib.hid hk; have HS := Lib.hid hs; clear hk hs
                  rcases Classical.em (g2.aa < g.aa) with hbt | hbt
                  · have hd : decide (g2.aa < g.aa) = true := decide_eq_true hbt
                    rw [hd] at HBE
                    clear hd
                    obtain ⟨hst1, htr⟩ := HS.out hbt
                    have hlt2 : tr3 g2 < tr3 g0 := by
                      cases b with
                      | true => have := hlt rfl; omega
                      | false => obtain ⟨e, _⟩ := hno rfl; rw [← e]; exact htr
                    clear HK
                    go_wp2_with fail
                    refine (HBE.out _).mono ?_
                    rintro e w2 ⟨rfl, hb2⟩
                    obtain ⟨hc2, hf2⟩ := bcell hb2
                    have hz2 := hb2.size
                    try simp at hz2
                    have z2_0 : w.heap.size < w2.heap.size := by omega
                    have z2_1 : w1.heap.size < w2.heap.size := by omega
                    go_wp2_with fail
                    refine (HAD.out _).mono ?_
                    rintro e w3 ⟨rfl, hb3⟩
                    obtain ⟨hc3, hf3⟩ := bcell hb3
                    have hz3 := hb3.size
                    try simp at hz3
                    have z3_0 : w.heap.size < w3.heap.size := by omega
                    have z3_1 : w1.heap.size < w3.heap.size := by omega
                    go_wp2_with fail
                    refine (HAE.out _).mono ?_
                    rintro e w4 ⟨rfl, hb4⟩
                    obtain ⟨hc4, hf4⟩ := bcell hb4
                    have hz4 := hb4.size
                    try simp at hz4
                    have z4_0 : w.heap.size < w4.heap.size := by omega
                    have z4_1 : w1.heap.size < w4.heap.size := by omega
                    go_wp2
                    go_roundw
                    case rel =>
                      refine ⟨3, g2, true, by omega, by go_num, rfl, hst1, ?_, fun _ => hlt2, fun hb => (by cases hb)⟩
                      constructor
                      · repeat (first | exact Below.refl _ _ | assumption | exact Below.alloc (Below.refl _ _) (Nat.le_refl _) _ | refine Below.setCell ?_ (by first | (simp; done) | (simp; omega) | omega) _ | refine below_drewN ?_ _ | refine Below.alloc ?_ (by first | (simp; done) | (simp; omega) | omega) _ | refine Below.trans ?_ (Below.mono (by assumption) (by first | (simp; done) | (simp; omega) | omega)))
                      · first | (simp; done) | (simp; omega) | omega
                      · omega
                      · intro o; go_simp
                      all_goals first | (go_simp; done) | (go_simp; rfl)
                    case measure => simp [intOf] <;> omega
                  · have hd : decide (g2.aa < g.aa) = false := decide_eq_false hbt
                    rw [hd] at HBE
                    clear hd
                    have hkk := HK.out (by omega)
                    clear HK HS
                    go_wp2_with fail
                    refine (HBE.out _).mono ?_
                    rintro e w2 ⟨rfl, hb2⟩
                    obtain ⟨hc2, hf2⟩ := bcell hb2
                    have hz2 := hb2.size
                    try simp at hz2
                    have z2_0 : w.heap.size < w2.heap.size := by omega
                    have z2_1 : w1.heap.size < w2.heap.size := by omega
                    go_wp2
                    go_roundw
                    case rel =>
                      refine ⟨3, g, b, by omega, by go_num, rfl, hst, ?_, hlt, fun hb => by
                        obtain ⟨e, p, q, s⟩ := hno hb
                        refine ⟨e, p, q, ?_⟩
                        rw [← e]
                        rw [← e] at s
                        unfold PN0 at *
                        obtain ⟨q0, q1, q2, q3⟩ := s
                        exact ⟨fun _ => q0 (by omega), fun _ => q1 (by omega), fun _ => hkk, fun hh => absurd hh (by omega)⟩⟩
                      constructor
                      · repeat (first | exact Below.refl _ _ | assumption | exact Below.alloc (Below.refl _ _) (Nat.le_refl _) _ | refine Below.setCell ?_ (by first | (simp; done) | (simp; omega) | omega) _ | refine below_drewN ?_ _ | refine Below.alloc ?_ (by first | (simp; done) | (simp; omega) | omega) _ | refine Below.trans ?_ (Below.mono (by assumption) (by first | (simp; done) | (simp; omega) | omega)))
                      · first | (simp; done) | (simp; omega) | omega
                      · omega
                      · intro o; go_simp
                      all_goals first | (go_simp; done) | (go_simp; rfl)
                    case measure => simp [intOf] <;> omega
                · try simp only [show ((0 : Nat) : Int) = 0 from rfl, show ((1 : Nat) : Int) = 1 from rfl, show ((2 : Nat) : Int) = 2 from rfl, show ((3 : Nat) : Int) = 3 from rfl, show ((4 : Nat) : Int) = 4 from rfl]
                  obtain ⟨BE, AD, AE, hk, hs⟩ := stepS_03 hst
                  obtain ⟨g1, eg1⟩ : ∃ q, q = ad01 (1) g := ⟨_, rfl⟩
                  rw [← eg1] at BE AD AE hk hs
                  obtain ⟨g2, eg2⟩ : ∃ q, q = ad02 (1) g1 := ⟨_, rfl⟩
                  rw [← eg2] at BE AE hk hs
                  clear eg1 eg2
                  have HBE := Lib.hid BE; have HAD := Lib.hid AD; have HAE := Lib.hid AE; clear BE AD AE
                  have HK := Lib.hid hk; have HS := Lib.hid hs; clear hk hs
                  rcases Classical.em (g2.aa < g.aa) with hbt | hbt
                  · have hd : decide (g2.aa < g.aa) = true := decide_eq_true hbt
                    rw [hd] at HBE
                    clear hd
                    obtain ⟨hst1, htr⟩ := HS.out hbt
                    have hlt2 : tr3 g2 < tr3 g0 := by
                      cases b with
                      | true => have := hlt rfl; omega
                      | false => obtain ⟨e, _⟩ := hno rfl; rw [← e]; exact htr
                    clear HK
                    go_wp2_with fail
                    refine (HBE.out _).mono ?_
                    rintro e w2 ⟨rfl, hb2⟩
                    obtain ⟨hc2, hf2⟩ := bcell hb2
                    have hz2 := hb2.size
                    try simp at hz2
                    have z2_0 : w.heap.size < w2.heap.size := by omega
                    have z2_1 : w1.heap.size < w2.heap.size := by omega
                    go_wp2_with fail
                    refine (HAD.out _).mono ?_
                    rintro e w3 ⟨rfl, hb3⟩
                    obtain ⟨hc3, hf3⟩ := bcell hb3
                    have hz3 := hb3.size
                    try simp at hz3
                    have z3_0 : w.heap.size < w3.heap.size := by omega
                    have z3_1 : w1.heap.size < w3.heap.size := by omega
                    go_wp2_with fail
                    refine (HAE.out _).mono ?_
                    rintro e w4 ⟨rfl, hb4⟩
                    obtain ⟨hc4, hf4⟩ := bcell hb4
                    have hz4 := hb4.size
                    try simp at hz4
                    have z4_0 : w.heap.size < w4.heap.size := by omega
                    have z4_1 : w1.heap.size < w4.heap.size := by omega
                    go_wp2
                    go_roundw
                    case rel =>
                      refine ⟨4, g2, true, by omega, by go_num, rfl, hst1, ?_, fun _ => hlt2, fun hb => (by cases hb)⟩
                      constructor
                      · repeat (first | exact Below.refl _ _ | assumption | exact Below.alloc (Below.refl _ _) (Nat.le_refl _) _ | refine Below.setCell ?_ (by first | (simp; done) | (simp; omega) | omega) _ | refine below_drewN ?_ _ | refine Below.alloc ?_ (by first | (simp; done) | (simp; omega) | omega) _ | refine Below.trans ?_ (Below.mono (by assumption) (by first | (simp; done) | (simp; omega) | omega)))
                      · first | (simp; done) | (simp; omega) | omega
                      · omega
                      · intro o; go_simp
                      all_goals first | (go_simp; done) | (go_simp; rfl)
                    case measure => simp [intOf] <;> omega
                  · have hd : decide (g2.aa < g.aa) = false := decide_eq_false hbt
                    rw [hd] at HBE
                    clear hd
                    have hkk := HK.out (by omega)
                    clear HK HS
                    go_wp2_with fail
                    refine (HBE.out _).mono ?_
                    rintro e w2 ⟨rfl, hb2⟩
                    obtain ⟨hc2, hf2⟩ := bcell hb2
                    have hz2 := hb2.size
                    try simp at hz2
                    have z2_0 : w.heap.size < w2.heap.size := by omega
                    have z2_1 : w1.heap.size < w2.heap.size := by omega
                    go_wp2
                    go_roundw
                    case rel =>
                      refine ⟨4, g, b, by omega, by go_num, rfl, hst, ?_, hlt, fun hb => by
                        obtain ⟨e, p, q, s⟩ := hno hb
                        refine ⟨e, p, q, ?_⟩
                        rw [← e]
                        rw [← e] at s
                        unfold PN0 at *
                        obtain ⟨q0, q1, q2, q3⟩ := s
                        exact ⟨fun _ => q0 (by omega), fun _ => q1 (by omega), fun _ => q2 (by omega), fun _ => hkk⟩⟩
                      constructor
                      · repeat (first | exact Below.refl _ _ | assumption | exact Below.alloc (Below.refl _ _) (Nat.le_refl _) _ | refine Below.setCell ?_ (by first | (simp; done) | (simp; omega) | omega) _ | refine below_drewN ?_ _ | refine Below.alloc ?_ (by first | (simp; done) | (simp; omega) | omega) _ | refine Below.trans ?_ (Below.mono (by assumption) (by first | (simp; done) | (simp; omega) | omega)))
                      · first | (simp; done) | (simp; omega) | omega
                      · omega
                      · intro o; go_simp
                      all_goals first | (go_simp; done) | (go_simp; rfl)
                    case measure => simp [intOf] <;> omega
                · try simp only [show ((0 : Nat) : Int) = 0 from rfl, show ((1 : Nat) : Int) = 1 from rfl, show ((2 : Nat) : Int) = 2 from rfl, show ((3 : Nat) : Int) = 3 from rfl, show ((4 : Nat) : Int) = 4 from rfl]
                  go_wp2
                  go_roundw
                  case rel =>
                    refine ⟨1, g, b, by omega, by go_num, rfl, hst, ?_, hlt, fun hb => by
                      obtain ⟨e, p, q, s⟩ := hno hb
                      refine ⟨e, ?_⟩
                      unfold PI3 PJ0 PN0 at *
                      obtain ⟨p0, p1, p2⟩ := p
                      obtain ⟨q1, q2⟩ := q
                      obtain ⟨s0, s1, s2, s3⟩ := s
                      exact ⟨fun _ => ⟨q1 (by omega), q2 (by omega), s0 (by omega), s1 (by omega), s2 (by omega), s3 (by omega)⟩, fun hh => absurd hh (by omega), fun hh => absurd hh (by omega)⟩⟩
                    constructor
                    · repeat (first | exact Below.refl _ _ | assumption | exact Below.alloc (Below.refl _ _) (Nat.le_refl _) _ | refine Below.setCell ?_ (by first | (simp; done) | (simp; omega) | omega) _ | refine below_drewN ?_ _ | refine Below.alloc ?_ (by first | (simp; done) | (simp; omega) | omega) _ | refine Below.trans ?_ (Below.mono (by assumption) (by first | (simp; done) | (simp; omega) | omega)))
                    · first | (simp; done) | (simp; omega) | omega
                    · omega
                    · intro o; go_simp
                    all_goals first | (go_simp; done) | (go_simp; rfl)
                  case measure => simp [intOf] <;> omega
        · try simp only [show ((0 : Nat) : Int) = 0 from rfl, show ((1 : Nat) : Int) = 1 from rfl, show ((2 : Nat) : Int) = 2 from rfl, show ((3 : Nat) : Int) = 3 from rfl, show ((4 : Nat) : Int) = 4 from rfl]
          go_wp2
          go_loopw [8, 6] (fun j t wr => ∃ (jj : Nat) (g : Met) (b : Bool), jj ≤ 3 ∧ j = .int .i64 jj ∧ t = .bool b ∧ St m g ∧ CI w w.heap.size w1.heap.size g wr ∧ (b = true → tr3 g < tr3 g0) ∧ (b = false → g = g0 ∧ PI3 1 g0 ∧ PJ1 jj g0)) (fun j _ _ => 3 - (intOf j).toNat)
          case atStart =>
            refine ⟨0, g, b, by omega, rfl, rfl, hst, ?_, hlt, fun hb => ?_⟩
            · constructor
              · repeat (first | exact Below.refl _ _ | assumption | exact Below.alloc (Below.refl _ _) (Nat.le_refl _) _ | refine Below.setCell ?_ (by first | (simp; done) | (simp; omega) | omega) _ | refine below_drewN ?_ _ | refine Below.alloc ?_ (by first | (simp; done) | (simp; omega) | omega) _ | refine Below.trans ?_ (Below.mono (by assumption) (by first | (simp; done) | (simp; omega) | omega)))
              · first | (simp; done) | (simp; omega) | omega
              · omega
              · intro o; go_simp
              all_goals first | (go_simp; done) | (go_simp; rfl)
            · obtain ⟨e, p⟩ := hno hb
              refine ⟨e, p, ?_⟩
              unfold PJ1
              exact ⟨fun hh => absurd hh (by omega), fun hh => absurd hh (by omega)⟩
          case round =>
            clear below zg zb qq fz hst hlt hno c0 c1 c2 c3 c4 c5 c6 c7 c8
            obtain ⟨jj, g, b, hk, rfl, rfl, hst, hci, hlt, hno⟩ := hrel
            obtain ⟨below, zg, zB, fz, c0, c1, c2, c3, c4, c5, c6, c7, c8⟩ := hci
            have zb := below.size
            have qq : w.heap.size < wr.heap.size := by omega
            rcases (by omega : jj = 0 ∨ jj = 1 ∨ jj = 2 ∨ jj = 3) with rfl | rfl | rfl | rfl
            · try simp only [show ((0 : Nat) : Int) = 0 from rfl, show ((1 : Nat) : Int) = 1 from rfl, show ((2 : Nat) : Int) = 2 from rfl, show ((3 : Nat) : Int) = 3 from rfl, show ((4 : Nat) : Int) = 4 from rfl]
              obtain ⟨r, rb, RO, BE, AD, hk, hs⟩ := stepR_10 hst
              obtain ⟨g1, eg⟩ : ∃ q, q = ad10 (-r) g := ⟨_, rfl⟩
              rw [← eg] at BE AD hk hs
              clear eg
              have hw : wrap64 (-r) = -r := wrapE (by omega) (by omega)
              have HRO := Lib.hid RO; have HBE := Lib.hid BE; have HAD := Lib.hid AD; clear RO BE AD
              have HK := Lib.hid hk; have HS := Lib.hid hs; clear hk hs
              rcases Classical.em (r = 0) with hr | hr
              · have hkk := HK.out (Or.inl hr)
                have hr1 : (r != 0) = false := by simp [hr]
                have hr2 : (r == 0) = true := by simp [hr]
                clear HK HS
                go_wp2
                refine region_head 11 (by kernel_rfl) (by kernel_rfl) ?_
                simp only [List.take_succ_cons, List.take_zero, List.drop_succ_cons, List.drop_zero]
                repeat (go_big_quiet_step ((go_at_call 48; exact held_of _ (Nat.le_refl _) (HRO.out _))))
                refine wpQuiet_nil ?_
                rintro x1 ⟨⟨w0, hbx1⟩, rfl⟩
                obtain ⟨hcx1, hfx1⟩ := bcell hbx1
                have hzx1 := hbx1.size
                try simp at hzx1
                have zx1_0 : w.heap.size < x1.heap.size := by omega
                have zx1_1 : w1.heap.size < x1.heap.size := by omega
                clear HBE HAD
                go_wp2
                go_roundw
                case rel =>
                  refine ⟨1, g, b, by omega, by go_num, rfl, hst, ?_, hlt, fun hb => by
                    obtain ⟨e, p, q⟩ := hno hb
                    refine ⟨e, p, ?_⟩
                    rw [← e]
                    rw [← e] at q
                    unfold PJ1 at *
                    exact ⟨fun _ => hkk, fun hh => absurd hh (by omega)⟩⟩
                  constructor
                  · repeat (first | exact Below.refl _ _ | assumption | exact Below.alloc (Below.refl _ _) (Nat.le_refl _) _ | refine Below.setCell ?_ (by first | (simp; done) | (simp; omega) | omega) _ | refine below_drewN ?_ _ | refine Below.alloc ?_ (by first | (simp; done) | (simp; omega) | omega) _ | refine Below.trans ?_ (Below.mono (by assumption) (by first | (simp; done) | (simp; omega) | omega)))
                  · first | (simp; done) | (simp; omega) | omega
                  · omega
                  · intro o; go_simp
                  all_goals first | (go_simp; done) | (go_simp; rfl)
                case measure => simp [intOf] <;> omega
              · have hr1 : (r != 0) = true := by simp [hr]
                have hr2 : (r == 0) = false := by rw [beq_eq_false_iff_ne]; exact hr
                go_wp2
                refine region_head 11 (by kernel_rfl) (by kernel_rfl) ?_
                simp only [List.take_succ_cons, List.take_zero, List.drop_succ_cons, List.drop_zero]
                repeat (go_big_quiet_step ((go_at_call 48; exact held_of _ (Nat.le_refl _) (HRO.out _))))
                refine wpQuiet_nil ?_
                rintro x1 ⟨⟨w0, hbx1⟩, rfl⟩
                obtain ⟨hcx1, hfx1⟩ := bcell hbx1
                have hzx1 := hbx1.size
                try simp at hzx1
                have zx1_0 : w.heap.size < x1.heap.size := by omega
                have zx1_1 : w1.heap.size < x1.heap.size := by omega
                rcases Classical.em (g1.bb < g.bb) with hbt | hbt
                · have hd : decide (g1.bb < g.bb) = true := decide_eq_true hbt
                  rw [hd] at HBE
                  clear hd
                  obtain ⟨hst1, htr⟩ := HS.out hbt
                  have hlt2 : tr3 g1 < tr3 g0 := by
                    cases b with
                    | true => have := hlt rfl; omega
                    | false => obtain ⟨e, _⟩ := hno rfl; rw [← e]; exact htr
                  clear HK
                  go_wp2_with fail
                  refine (HBE.out _).mono ?_
                  rintro e w2 ⟨rfl, hb2⟩
                  obtain ⟨hc2, hf2⟩ := bcell hb2
                  have hz2 := hb2.size
                  try simp at hz2
                  have z2_0 : w.heap.size < w2.heap.size := by omega
                  have z2_1 : w1.heap.size < w2.heap.size := by omega
                  go_wp2_with fail
                  refine (HAD.out _).mono ?_
                  rintro e w3 ⟨rfl, hb3⟩
                  obtain ⟨hc3, hf3⟩ := bcell hb3
                  have hz3 := hb3.size
                  try simp at hz3
                  have z3_0 : w.heap.size < w3.heap.size := by omega
                  have z3_1 : w1.heap.size < w3.heap.size := by omega
                  go_wp2
                  go_roundw
                  case rel =>
                    refine ⟨1, g1, true, by omega, by go_num, rfl, hst1, ?_, fun _ => hlt2, fun hb => (by cases hb)⟩
                    constructor
                    · repeat (first | exact Below.refl _ _ | assumption | exact Below.alloc (Below.refl _ _) (Nat.le_refl _) _ | refine Below.setCell ?_ (by first | (simp; done) | (simp; omega) | omega) _ | refine below_drewN ?_ _ | refine Below.alloc ?_ (by first | (simp; done) | (simp; omega) | omega) _ | refine Below.trans ?_ (Below.mono (by assumption) (by first | (simp; done) | (simp; omega) | omega)))
                    · first | (simp; done) | (simp; omega) | omega
                    · omega
                    · intro o; go_simp
                    all_goals first | (go_simp; done) | (go_simp; rfl)
                  case measure => simp [intOf] <;> omega
                · have hd : decide (g1.bb < g.bb) = false := decide_eq_false hbt
                  rw [hd] at HBE
                  clear hd
                  have hkk := HK.out (Or.inr (by omega))
                  clear HK HS
                  go_wp2_with fail
                  refine (HBE.out _).mono ?_
                  rintro e w2 ⟨rfl, hb2⟩
                  obtain ⟨hc2, hf2⟩ := bcell hb2
                  have hz2 := hb2.size
                  try simp at hz2
                  have z2_0 : w.heap.size < w2.heap.size := by omega
                  have z2_1 : w1.heap.size < w2.heap.size := by omega
                  go_wp2
                  go_roundw
                  case rel =>
                    refine ⟨1, g, b, by omega, by go_num, rfl, hst, ?_, hlt, fun hb => by
                      obtain ⟨e, p, q⟩ := hno hb
                      refine ⟨e, p, ?_⟩
                      rw [← e]
                      rw [← e] at q
                      unfold PJ1 at *
                      exact ⟨fun _ => hkk, fun hh => absurd hh (by omega)⟩⟩
                    constructor
                    · repeat (first | exact Below.refl _ _ | assumption | exact Below.alloc (Below.refl _ _) (Nat.le_refl _) _ | refine Below.setCell ?_ (by first | (simp; done) | (simp; omega) | omega) _ | refine below_drewN ?_ _ | refine Below.alloc ?_ (by first | (simp; done) | (simp; omega) | omega) _ | refine Below.trans ?_ (Below.mono (by assumption) (by first | (simp; done) | (simp; omega) | omega)))
                    · first | (simp; done) | (simp; omega) | omega
                    · omega
                    · intro o; go_simp
                    all_goals first | (go_simp; done) | (go_simp; rfl)
                  case measure => simp [intOf] <;> omega
            · try simp only [show ((0 : Nat) : Int) = 0 from rfl, show ((1 : Nat) : Int) = 1 from rfl, show ((2 : Nat) : Int) = 2 from rfl, show ((3 : Nat) : Int) = 3 from rfl, show ((4 : Nat) : Int) = 4 from rfl]
              go_wp2
              go_roundw
              case rel =>
                refine ⟨2, g, b, by omega, by go_num, rfl, hst, ?_, hlt, fun hb => by
                  obtain ⟨e, p, q⟩ := hno hb
                  refine ⟨e, p, ?_⟩
                  unfold PJ1 at *
                  exact ⟨fun _ => q.1 (by omega), fun _ => q.2 (by omega)⟩⟩
                constructor
                · repeat (first | exact Below.refl _ _ | assumption | exact Below.alloc (Below.refl _ _) (Nat.le_refl _) _ | refine Below.setCell ?_ (by first | (simp; done) | (simp; omega) | omega) _ | refine below_drewN ?_ _ | refine Below.alloc ?_ (by first | (simp; done) | (simp; omega) | omega) _ | refine Below.trans ?_ (Below.mono (by assumption) (by first | (simp; done) | (simp; omega) | omega)))
                · first | (simp; done) | (simp; omega) | omega
                · omega
                · intro o; go_simp
                all_goals first | (go_simp; done) | (go_simp; rfl)
              case measure => simp [intOf] <;> omega
            · try simp only [show ((0 : Nat) : Int) = 0 from rfl, show ((1 : Nat) : Int) = 1 from rfl, show ((2 : Nat) : Int) = 2 from rfl, show ((3 : Nat) : Int) = 3 from rfl, show ((4 : Nat) : Int) = 4 from rfl]
              obtain ⟨r, rb, RO, BE, AD, hk, hs⟩ := stepR_12 hst
              obtain ⟨g1, eg⟩ : ∃ q, q = ad12 (-r) g := ⟨_, rfl⟩
              rw [← eg] at BE AD hk hs
              clear eg
              have hw : wrap64 (-r) = -r := wrapE (by omega) (by omega)
              have HRO := Lib.hid RO; have HBE := Lib.hid BE; have HAD := Lib.hid AD; clear RO BE AD
              have HK := Lib.hid hk; have HS := Lib.hid hs; clear hk hs
              rcases Classical.em (r = 0) with hr | hr
              · have hkk := HK.out (Or.inl hr)
                have hr1 : (r != 0) = false := by simp [hr]
                have hr2 : (r == 0) = true := by simp [hr]
                clear HK HS
                go_wp2
                refine region_head 11 (by kernel_rfl) (by kernel_rfl) ?_
                simp only [List.take_succ_cons, List.take_zero, List.drop_succ_cons, List.drop_zero]
                repeat (go_big_quiet_step ((go_at_call 48; exact held_of _ (Nat.le_refl _) (HRO.out _))))
                refine wpQuiet_nil ?_
                rintro x1 ⟨⟨w0, hbx1⟩, rfl⟩
                obtain ⟨hcx1, hfx1⟩ := bcell hbx1
                have hzx1 := hbx1.size
                try simp at hzx1
                have zx1_0 : w.heap.size < x1.heap.size := by omega
                have zx1_1 : w1.heap.size < x1.heap.size := by omega
                clear HBE HAD
                go_wp2
                go_roundw
                case rel =>
                  refine ⟨3, g, b, by omega, by go_num, rfl, hst, ?_, hlt, fun hb => by
                    obtain ⟨e, p, q⟩ := hno hb
                    refine ⟨e, p, ?_⟩
                    rw [← e]
                    rw [← e] at q
                    unfold PJ1 at *
                    exact ⟨fun _ => q.1 (by omega), fun _ => hkk⟩⟩
                  constructor
                  · repeat (first | exact Below.refl _ _ | assumption | exact Below.alloc (Below.refl _ _) (Nat.le_refl _) _ | refine Below.setCell ?_ (by first | (simp; done) | (simp; omega) | omega) _ | refine below_drewN ?_ _ | refine Below.alloc ?_ (by first | (simp; done) | (simp; omega) | omega) _ | refine Below.trans ?_ (Below.mono (by assumption) (by first | (simp; done) | (simp; omega) | omega)))
                  · first | (simp; done) | (simp; omega) | omega
                  · omega
                  · intro o; go_simp
                  all_goals first | (go_simp; done) | (go_simp; rfl)
                case measure => simp [intOf] <;> omega
              · have hr1 : (r != 0) = true := by simp [hr]
                have hr2 : (r == 0) = false := by rw [beq_eq_false_iff_ne]; exact hr
                go_wp2
                refine region_head 11 (by kernel_rfl) (by kernel_rfl) ?_
                simp only [List.take_succ_cons, List.take_zero, List.drop_succ_cons, List.drop_zero]
                repeat (go_big_quiet_step ((go_at_call 48; exact held_of _ (Nat.le_refl _) (HRO.out _))))
                refine wpQuiet_nil ?_
                rintro x1 ⟨⟨w0, hbx1⟩, rfl⟩
                obtain ⟨hcx1, hfx1⟩ := bcell hbx1
                have hzx1 := hbx1.size
                try simp at hzx1
                have zx1_0 : w.heap.size < x1.heap.size := by omega
                have zx1_1 : w1.heap.size < x1.heap.size := by omega
                rcases Classical.em (g1.bb < g.bb) with hbt | hbt
                · have hd : decide (g1.bb < g.bb) = true := decide_eq_true hbt
                  rw [hd] at HBE
                  clear hd
                  obtain ⟨hst1, htr⟩ := HS.out hbt
                  have hlt2 : tr3 g1 < tr3 g0 := by
                    cases b with
                    | true => have := hlt rfl; omega
                    | false => obtain ⟨e, _⟩ := hno rfl; rw [← e]; exact htr
                  clear HK
                  go_wp2_with fail
                  refine (HBE.out _).mono ?_
                  rintro e w2 ⟨rfl, hb2⟩
                  obtain ⟨hc2, hf2⟩ := bcell hb2
                  have hz2 := hb2.size
                  try simp at hz2
                  have z2_0 : w.heap.size < w2.heap.size := by omega
                  have z2_1 : w1.heap.size < w2.heap.size := by omega
                  go_wp2_with fail
                  refine (HAD.out _).mono ?_
                  rintro e w3 ⟨rfl, hb3⟩
                  obtain ⟨hc3, hf3⟩ := bcell hb3
                  have hz3 := hb3.size
                  try simp at hz3
                  have z3_0 : w.heap.size < w3.heap.size := by omega
                  have z3_1 : w1.heap.size < w3.heap.size := by omega
                  go_wp2
                  go_roundw
                  case rel =>
                    refine ⟨3, g1, true, by omega, by go_num, rfl, hst1, ?_, fun _ => hlt2, fun hb => (by cases hb)⟩
                    constructor
                    · repeat (first | exact Below.refl _ _ | assumption | exact Below.alloc (Below.refl _ _) (Nat.le_refl _) _ | refine Below.setCell ?_ (by first | (simp; done) | (simp; omega) | omega) _ | refine below_drewN ?_ _ | refine Below.alloc ?_ (by first | (simp; done) | (simp; omega) | omega) _ | refine Below.trans ?_ (Below.mono (by assumption) (by first | (simp; done) | (simp; omega) | omega)))
                    · first | (simp; done) | (simp; omega) | omega
                    · omega
                    · intro o; go_simp
                    all_goals first | (go_simp; done) | (go_simp; rfl)
                  case measure => simp [intOf] <;> omega
                · have hd : decide (g1.bb < g.bb) = false := decide_eq_false hbt
                  rw [hd] at HBE
                  clear hd
                  have hkk := HK.out (Or.inr (by omega))
                  clear HK HS
                  go_wp2_with fail
                  refine (HBE.out _).mono ?_
                  rintro e w2 ⟨rfl, hb2⟩
                  obtain ⟨hc2, hf2⟩ := bcell hb2
                  have hz2 := hb2.size
                  try simp at hz2
                  have z2_0 : w.heap.size < w2.heap.size := by omega
                  have z2_1 : w1.heap.size < w2.heap.size := by omega
                  go_wp2
                  go_roundw
                  case rel =>
                    refine ⟨3, g, b, by omega, by go_num, rfl, hst, ?_, hlt, fun hb => by
                      obtain ⟨e, p, q⟩ := hno hb
                      refine ⟨e, p, ?_⟩
                      rw [← e]
                      rw [← e] at q
                      unfold PJ1 at *
                      exact ⟨fun _ => q.1 (by omega), fun _ => hkk⟩⟩
                    constructor
                    · repeat (first | exact Below.refl _ _ | assumption | exact Below.alloc (Below.refl _ _) (Nat.le_refl _) _ | refine Below.setCell ?_ (by first | (simp; done) | (simp; omega) | omega) _ | refine below_drewN ?_ _ | refine Below.alloc ?_ (by first | (simp; done) | (simp; omega) | omega) _ | refine Below.trans ?_ (Below.mono (by assumption) (by first | (simp; done) | (simp; omega) | omega)))
                    · first | (simp; done) | (simp; omega) | omega
                    · omega
                    · intro o; go_simp
                    all_goals first | (go_simp; done) | (go_simp; rfl)
                  case measure => simp [intOf] <;> omega
            · try simp only [show ((0 : Nat) : Int) = 0 from rfl, show ((1 : Nat) : Int) = 1 from rfl, show ((2 : Nat) : Int) = 2 from rfl, show ((3 : Nat) : Int) = 3 from rfl, show ((4 : Nat) : Int) = 4 from rfl]
              go_wp2
              go_loopw [12, 6] (fun n t wr => ∃ (nn : Nat) (g : Met) (b : Bool), nn ≤ 4 ∧ n = .int .i64 nn ∧ t = .bool b ∧ St m g ∧ CI w w.heap.size w1.heap.size g wr ∧ (b = true → tr3 g < tr3 g0) ∧ (b = false → g = g0 ∧ PI3 1 g0 ∧ PJ1 3 g0 ∧ PN1 nn g0)) (fun n _ _ => 4 - (intOf n).toNat)
              case atStart =>
                refine ⟨0, g, b, by omega, rfl, rfl, hst, ?_, hlt, fun hb => ?_⟩
                · constructor
                  · repeat (first | exact Below.refl _ _ | assumption | exact Below.alloc (Below.refl _ _) (Nat.le_refl _) _ | refine Below.setCell ?_ (by first | (simp; done) | (simp; omega) | omega) _ | refine below_drewN ?_ _ | refine Below.alloc ?_ (by first | (simp; done) | (simp; omega) | omega) _ | refine Below.trans ?_ (Below.mono (by assumption) (by first | (simp; done) | (simp; omega) | omega)))
                  · first | (simp; done) | (simp; omega) | omega
                  · omega
                  · intro o; go_simp
                  all_goals first | (go_simp; done) | (go_simp; rfl)
                · obtain ⟨e, p, q⟩ := hno hb
                  refine ⟨e, p, q, ?_⟩
                  unfold PN1
                  exact ⟨fun hh => absurd hh (by omega), fun hh => absurd hh (by omega), fun hh => absurd hh (by omega), fun hh => absurd hh (by omega)⟩
              case round =>
                clear below zg zb qq fz hst hlt hno c0 c1 c2 c3 c4 c5 c6 c7 c8
                obtain ⟨nn, g, b, hk, rfl, rfl, hst, hci, hlt, hno⟩ := hrel
                obtain ⟨below, zg, zB, fz, c0, c1, c2, c3, c4, c5, c6, c7, c8⟩ := hci
                have zb := below.size
                have qq : w.heap.size < wr.heap.size := by omega
                rcases (by omega : nn = 0 ∨ nn = 1 ∨ nn = 2 ∨ nn = 3 ∨ nn = 4) with rfl | rfl | rfl | rfl | rfl
                · try simp only [show ((0 : Nat) : Int) = 0 from rfl, show ((1 : Nat) : Int) = 1 from rfl, show ((2 : Nat) : Int) = 2 from rfl, show ((3 : Nat) : Int) = 3 from rfl, show ((4 : Nat) : Int) = 4 from rfl]
                  obtain ⟨BE, AD, AE, hk, hs⟩ := stepS_10 hst
                  obtain ⟨g1, eg1⟩ : ∃ q, q = ad12 (-1) g := ⟨_, rfl⟩
                  rw [← eg1] at BE AD AE hk hs
                  obtain ⟨g2, eg2⟩ : ∃ q, q = ad10 (-1) g1 := ⟨_, rfl⟩
                  rw [← eg2] at BE AE hk hs
                  clear eg1 eg2
                  have HBE := Lib.hid BE; have HAD := Lib.hid AD; have HAE := Lib.hid AE; clear BE AD AE
                  have HK := Lib.hid hk; have HS := Lib.hid hs; clear hk hs
                  rcases Classical.em (g2.bb < g.bb) with hbt | hbt
                  · have hd : decide (g2.bb < g.bb) = true := decide_eq_true hbt
                    rw [hd] at HBE
                    clear hd
                    obtain ⟨hst1, htr⟩ := HS.out hbt
                    have hlt2 : tr3 g2 < tr3 g0 := by
                      cases b with
                      | true => have := hlt rfl; omega
                      | false => obtain ⟨e, _⟩ := hno rfl; rw [← e]; exact htr
                    clear HK
                    go_wp2_with fail
                    refine (HBE.out _).mono ?_
                    rintro e w2 ⟨rfl, hb2⟩
                    obtain ⟨hc2, hf2⟩ := bcell hb2
                    have hz2 := hb2.size
                    try simp at hz2
                    have z2_0 : w.heap.size < w2.heap.size := by omega
                    have z2_1 : w1.heap.size < w2.heap.size := by omega
                    go_wp2_with fail
                    refine (HAD.out _).mono ?_
                    rintro e w3 ⟨rfl, hb3⟩
                    obtain ⟨hc3, hf3⟩ := bcell hb3
                    have hz3 := hb3.size
                    try simp at hz3
                    have z3_0 : w.heap.size < w3.heap.size := by omega
                    have z3_1 : w1.heap.size < w3.heap.size := by omega
                    go_wp2_with fail
                    refine (HAE.out _).mono ?_
                    rintro e w4 ⟨rfl, hb4⟩
                    obtain ⟨hc4, hf4⟩ := bcell hb4
                    have hz4 := hb4.size
                    try simp at hz4
                    have z4_0 : w.heap.size < w4.heap.size := by omega
                    have z4_1 : w1.heap.size < w4.heap.size := by omega
                    go_wp2
                    go_roundw
                    case rel =>
                      refine ⟨1, g2, true, by omega, by go_num, rfl, hst1, ?_, fun _ => hlt2, fun hb => (by cases hb)⟩
                      constructor
                      · repeat (first | exact Below.refl _ _ | assumption | exact Below.alloc (Below.refl _ _) (Nat.le_refl _) _ | refine Below.setCell ?_ (by first | (simp; done) | (simp; omega) | omega) _ | refine below_drewN ?_ _ | refine Below.alloc ?_ (by first | (simp; done) | (simp; omega) | omega) _ | refine Below.trans ?_ (Below.mono (by assumption) (by first | (simp; done) | (simp; omega) | omega)))
                      · first | (simp; done) | (simp; omega) | omega
                      · omega
                      · intro o; go_simp
                      all_goals first | (go_simp; done) | (go_simp; rfl)
                    case measure => simp [intOf] <;> omega
                  · have hd : decide (g2.bb < g.bb) = false := decide_eq_false hbt
                    rw [hd] at HBE
                    clear hd
                    have hkk := HK.out (by omega)
                    clear HK HS
                    go_wp2_with fail
                    refine (HBE.out _).mono ?_
                    rintro e w2 ⟨rfl, hb2⟩
                    obtain ⟨hc2, hf2⟩ := bcell hb2
                    have hz2 := hb2.size
                    try simp at hz2
                    have z2_0 : w.heap.size < w2.heap.size := by omega
                    have z2_1 : w1.heap.size < w2.heap.size := by omega
                    go_wp2
                    go_roundw
                    case rel =>
                      refine ⟨1, g, b, by omega, by go_num, rfl, hst, ?_, hlt, fun hb => by
                        obtain ⟨e, p, q, s⟩ := hno hb
                        refine ⟨e, p, q, ?_⟩
                        rw [← e]
                        rw [← e] at s
                        unfold PN1 at *
                        obtain ⟨q0, q1, q2, q3⟩ := s
                        exact ⟨fun _ => hkk, fun hh => absurd hh (by omega), fun hh => absurd hh (by omega), fun hh => absurd hh (by omega)⟩⟩
                      constructor
                      · repeat (first | exact Below.refl _ _ | assumption | exact Below.alloc (Below.refl _ _) (Nat.le_refl _) _ | refine Below.setCell ?_ (by first | (simp; done) | (simp; omega) | omega) _ | refine below_drewN ?_ _ | refine Below.alloc ?_ (by first | (simp; done) | (simp; omega) | omega) _ | refine Below.trans ?_ (Below.mono (by assumption) (by first | (simp; done) | (simp; omega) | omega)))
                      · first | (simp; done) | (simp; omega) | omega
                      · omega
                      · intro o; go_simp
                      all_goals first | (go_simp; done) | (go_simp; rfl)
                    case measure => simp [intOf] <;> omega
                · try simp only [show ((0 : Nat) : Int) = 0 from rfl, show ((1 : Nat) : Int) = 1 from rfl, show ((2 : Nat) : Int) = 2 from rfl, show ((3 : Nat) : Int) = 3 from rfl, show ((4 : Nat) : Int) = 4 from rfl]
                  obtain ⟨BE, AD, AE, hk, hs⟩ := stepS_11 hst
                  obtain ⟨g1, eg1⟩ : ∃ q, q = ad12 (1) g := ⟨_, rfl⟩
                  rw [← eg1] at BE AD AE hk hs
                  obtain ⟨g2, eg2⟩ : ∃ q, q = ad10 (-1) g1 := ⟨_, rfl⟩
                  rw [← eg2] at BE AE hk hs
                  clear eg1 eg2
                  have HBE := Lib.hid BE; have HAD := Lib.hid AD; have HAE := Lib.hid AE; clear BE AD AE
                  have HK := Lib.hid hk; have HS := Lib.hid hs; clear hk hs
                  rcases Classical.em (g2.bb < g.bb) with hbt | hbt
                  · have hd : decide (g2.bb < g.bb) = true := decide_eq_true hbt
                    rw [hd] at HBE
                    clear hd
                    obtain ⟨hst1, htr⟩ := HS.out hbt
                    have hlt2 : tr3 g2 < tr3 g0 := by
                      cases b with
                      | true => have := hlt rfl; omega
                      | false => obtain ⟨e, _⟩ := hno rfl; rw [← e]; exact htr
                    clear HK
                    go_wp2_with fail
                    refine (HBE.out _).mono ?_
                    rintro e w2 ⟨rfl, hb2⟩
                    obtain ⟨hc2, hf2⟩ := bcell hb2
                    have hz2 := hb2.size
                    try simp at hz2
                    have z2_0 : w.heap.size < w2.heap.size := by omega
                    have z2_1 : w1.heap.size < w2.heap.size := by omega
                    go_wp2_with fail
                    refine (HAD.out _).mono ?_
                    rintro e w3 ⟨rfl, hb3⟩
                    obtain ⟨hc3, hf3⟩ := bcell hb3
                    have hz3 := hb3.size
                    try simp at hz3
                    have z3_0 : w.heap.size < w3.heap.size := by omega
                    have z3_1 : w1.heap.size < w3.heap.size := by omega
                    go_wp2_with fail
                    refine (HAE.out _).mono ?_
                    rintro e w4 ⟨rfl, hb4⟩
                    obtain ⟨hc4, hf4⟩ := bcell hb4
                    have hz4 := hb4.size
                    try simp at hz4
                    have z4_0 : w.heap.size < w4.heap.size := by omega
                    have z4_1 : w1.heap.size < w4.heap.size := by omega
                    go_wp2
                    go_roundw
                    case rel =>
                      refine ⟨2, g2, true, by omega, by go_num, rfl, hst1, ?_, fun _ => hlt2, fun hb => (by cases hb)⟩
                      constructor
                      · repeat (first | exact Below.refl _ _ | assumption | exact Below.alloc (Below.refl _ _) (Nat.le_refl _) _ | refine Below.setCell ?_ (by first | (simp; done) | (simp; omega) | omega) _ | refine below_drewN ?_ _ | refine Below.alloc ?_ (by first | (simp; done) | (simp; omega) | omega) _ | refine Below.trans ?_ (Below.mono (by assumption) (by first | (simp; done) | (simp; omega) | omega)))
                      · first | (simp; done) | (simp; omega) | omega
                      · omega
                      · intro o; go_simp
                      all_goals first | (go_simp; done) | (go_simp; rfl)
                    case measure => simp [intOf] <;> omega
                  · have hd : decide (g2.bb < g.bb) = false := decide_eq_false hbt
                    rw [hd] at HBE
                    clear hd
                    have hkk := HK.out (by omega)
                    clear HK HS
                    go_wp2_with fail
                    refine (HBE.out _).mono ?_
                    rintro e w2 ⟨rfl, hb2⟩
                    obtain ⟨hc2, hf2⟩ := bcell hb2
                    have hz2 := hb2.size
                    try simp at hz2
                    have z2_0 : w.heap.size < w2.heap.size := by omega
                    have z2_1 : w1.heap.size < w2.heap.size := by omega
                    go_wp2
                    go_roundw
                    case rel =>
                      refine ⟨2, g, b, by omega, by go_num, rfl, hst, ?_, hlt, fun hb => by
                        obtain ⟨e, p, q, s⟩ := hno hb
                        refine ⟨e, p, q, ?_⟩
                        rw [← e]
                        rw [← e] at s
                        unfold PN1 at *
                        obtain ⟨q0, q1, q2, q3⟩ := s
                        exact ⟨fun _ => q0 (by omega), fun _ => hkk, fun hh => absurd hh (by omega), fun hh => absurd hh (by omega)⟩⟩
                      constructor
                      · repeat (first | exact Below.refl _ _ | assumption | exact Below.alloc (Below.refl _ _) (Nat.le_refl _) _ | refine Below.setCell ?_ (by first | (simp; done) | (simp; omega) | omega) _ | refine below_drewN ?_ _ | refine Below.alloc ?_ (by first | (simp; done) | (simp; omega) | omega) _ | refine Below.trans ?_ (Below.mono (by assumption) (by first | (simp; done) | (simp; omega) | omega)))
                      · first | (simp; done) | (simp; omega) | omega
                      · omega
                      · intro o; go_simp
                      all_goals first | (go_simp; done) | (go_simp; rfl)
                    case measure => simp [intOf] <;> omega
                · try simp only [show ((0 : Nat) : Int) = 0 from rfl, show ((1 : Nat) : Int) = 1 from rfl, show ((2 : Nat) : Int) = 2 from rfl, show ((3 : Nat) : Int) = 3 from rfl, show ((4 : Nat) : Int) = 4 from rfl]
                  obtain ⟨BE, AD, AE, hk, hs⟩ := stepS_12 hst
                  obtain ⟨g1, eg1⟩ : ∃ q, q = ad12 (-1) g := ⟨_, rfl⟩
                  rw [← eg1] at BE AD AE hk hs
                  obtain ⟨g2, eg2⟩ : ∃ q, q = ad10 (1) g1 := ⟨_, rfl⟩
                  rw [← eg2] at BE AE hk hs
                  clear eg1 eg2
                  have HBE := Lib.hid BE; have HAD := Lib.hid AD; have HAE := Lib.hid AE; clear BE AD AE
                  have HK := Lib.hid hk; have HS := Lib.hid hs; clear hk hs
                  rcases Classical.em (g2.bb < g.bb) with hbt | hbt
                  · have hd : decide (g2.bb < g.bb) = true := decide_eq_true hbt
                    rw [hd] at HBE
                    clear hd
                    obtain ⟨hst1, htr⟩ := HS.out hbt
                    have hlt2 : tr3 g2 < tr3 g0 := by
                      cases b with
                      | true => have := hlt rfl; omega
                      | false => obtain ⟨e, _⟩ := hno rfl; rw [← e]; exact htr
                    clear HK
                    go_wp2_with fail
                    refine (HBE.out _).mono ?_
                    rintro e w2 ⟨rfl, hb2⟩
                    obtain ⟨hc2, hf2⟩ := bcell hb2
                    have hz2 := hb2.size
                    try simp at hz2
                    have z2_0 : w.heap.size < w2.heap.size := by omega
                    have z2_1 : w1.heap.size < w2.heap.size := by omega
                    go_wp2_with fail
                    refine (HAD.out _).mono ?_
                    rintro e w3 ⟨rfl, hb3⟩
                    obtain ⟨hc3, hf3⟩ := bcell hb3
                    have hz3 := hb3.size
                    try simp at hz3
                    have z3_0 : w.heap.size < w3.heap.size := by omega
                    have z3_1 : w1.heap.size < w3.heap.size := by omega
                    go_wp2_with fail
                    refine (HAE.out _).mono ?_
                    rintro e w4 ⟨rfl, hb4⟩
                    obtain ⟨hc4, hf4⟩ := bcell hb4
                    have hz4 := hb4.size
                    try simp at hz4
                    have z4_0 : w.heap.size < w4.heap.size := by omega
                    have z4_1 : w1.heap.size < w4.heap.size := by omega
                    go_wp2
                    go_roundw
                    case rel =>
                      refine ⟨3, g2, true, by omega, by go_num, rfl, hst1, ?_, fun _ => hlt2, fun hb => (by cases hb)⟩
                      constructor
                      · repeat (first | exact Below.refl _ _ | assumption | exact Below.alloc (Below.refl _ _) (Nat.le_refl _) _ | refine Below.setCell ?_ (by first | (simp; done) | (simp; omega) | omega) _ | refine below_drewN ?_ _ | refine Below.alloc ?_ (by first | (simp; done) | (simp; omega) | omega) _ | refine Below.trans ?_ (Below.mono (by assumption) (by first | (simp; done) | (simp; omega) | omega)))
                      · first | (simp; done) | (simp; omega) | omega
                      · omega
                      · intro o; go_simp
                      all_goals first | (go_simp; done) | (go_simp; rfl)
                    case measure => simp [intOf] <;> omega
                  · have hd : decide (g2.bb < g.bb) = false := decide_eq_false hbt
                    rw [hd] at HBE
                    clear hd
                    have hkk := HK.out (by omega)
                    clear HK HS
                    go_wp2_with fail
                    refine (HBE.out _).mono ?_
                    rintro e w2 ⟨rfl, hb2⟩
                    obtain ⟨hc2, hf2⟩ := bcell hb2
                    have hz2 := hb2.size
                    try simp at hz2
                    have z2_0 : w.heap.size < w2.heap.size := by omega
                    have z2_1 : w1.heap.size < w2.heap.size := by omega
                    go_wp2
                    go_roundw
                    case rel =>
                      refine ⟨3, g, b, by omega, by go_num, rfl, hst, ?_, hlt, fun hb => by
                        obtain ⟨e, p, q, s⟩ := hno hb
                        refine ⟨e, p, q, ?_⟩
                        rw [← e]
                        rw [← e] at s
                        unfold PN1 at *
                        obtain ⟨q0, q1, q2, q3⟩ := s
                        exact ⟨fun _ => q0 (by omega), fun _ => q1 (by omega), fun _ => hkk, fun hh => absurd hh (by omega)⟩⟩
                      constructor
                      · repeat (first | exact Below.refl _ _ | assumption | exact Below.alloc (Below.refl _ _) (Nat.le_refl _) _ | refine Below.setCell ?_ (by first | (simp; done) | (simp; omega) | omega) _ | refine below_drewN ?_ _ | refine Below.alloc ?_ (by first | (simp; done) | (simp; omega) | omega) _ | refine Below.trans ?_ (Below.mono (by assumption) (by first | (simp; done) | (simp; omega) | omega)))
                      · first | (simp; done) | (simp; omega) | omega
                      · omega
                      · intro o; go_simp
                      all_goals first | (go_simp; done) | (go_simp; rfl)
                    case measure => simp [intOf] <;> omega
                · try simp only [show ((0 : Nat) : Int) = 0 from rfl, show ((1 : Nat) : Int) = 1 from rfl, show ((2 : Nat) : Int) = 2 from rfl, show ((3 : Nat) : Int) = 3 from rfl, show ((4 : Nat) : Int) = 4 from rfl]
                  obtain ⟨BE, AD, AE, hk, hs⟩ := stepS_13 hst
                  obtain ⟨g1, eg1⟩ : ∃ q, q = ad12 (1) g := ⟨_, rfl⟩
                  rw [← eg1] at BE AD AE hk hs
                  obtain ⟨g2, eg2⟩ : ∃ q, q = ad10 (1) g1 := ⟨_, rfl⟩
                  rw [← eg2] at BE AE hk hs
                  clear eg1 eg2
                  have HBE := Lib.hid BE; have HAD := Lib.hid AD; have HAE := Lib.hid AE; clear BE AD AE
                  have HK := Lib.hid hk; have HS := Lib.hid hs; clear hk hs
                  rcases Classical.em (g2.bb < g.bb) with hbt | hbt
                  · have hd : decide (g2.bb < g.bb) = true := decide_eq_true hbt
                    rw [hd] at HBE
                    clear hd
                    obtain ⟨hst1, htr⟩ := HS.out hbt
                    have hlt2 : tr3 g2 < tr3 g0 := by
                      cases b with
                      | true => have := hlt rfl; omega
                      | false => obtain ⟨e, _⟩ := hno rfl; rw [← e]; exact htr
                    clear HK
                    go_wp2_with fail
                    refine (HBE.out _).mono ?_
                    rintro e w2 ⟨rfl, hb2⟩
                    obtain ⟨hc2, hf2⟩ := bcell hb2
                    have hz2 := hb2.size
                    try simp at hz2
                    have z2_0 : w.heap.size < w2.heap.size := by omega
                    have z2_1 : w1.heap.size < w2.heap.size := by omega
                    go_wp2_with fail
                    refine (HAD.out _).mono ?_
                    rintro e w3 ⟨rfl, hb3⟩
                    obtain ⟨hc3, hf3⟩ := bcell hb3
                    have hz3 := hb3.size
                    try simp at hz3
                    have z3_0 : w.heap.size < w3.heap.size := by omega
                    have z3_1 : w1.heap.size < w3.heap.size := by omega
                    go_wp2_with fail
                    refine (HAE.out _).mono ?_
                    rintro e w4 ⟨rfl, hb4⟩
                    obtain ⟨hc4, hf4⟩ := bcell hb4
                    have hz4 := hb4.size
                    try simp at hz4
                    have z4_0 : w.heap.size < w4.heap.size := by omega
                    have z4_1 : w1.heap.size < w4.heap.size := by omega
                    go_wp2
                    go_roundw
                    case rel =>
                      refine ⟨4, g2, true, by omega, by go_num, rfl, hst1, ?_, fun _ => hlt2, fun hb => (by cases hb)⟩
                      constructor
                      · repeat (first | exact Below.refl _ _ | assumption | exact Below.alloc (Below.refl _ _) (Nat.le_refl _) _ | refine Below.setCell ?_ (by first | (simp; done) | (simp; omega) | omega) _ | refine below_drewN ?_ _ | refine Below.alloc ?_ (by first | (simp; done) | (simp; omega) | omega) _ | refine Below.trans ?_ (Below.mono (by assumption) (by first | (simp; done) | (simp; omega) | omega)))
                      · first | (simp; done) | (simp; omega) | omega
                      · omega
                      · intro o; go_simp
                      all_goals first | (go_simp; done) | (go_simp; rfl)
                    case measure => simp [intOf] <;> omega
                  · have hd : decide (g2.bb < g.bb) = false := decide_eq_false hbt
                    rw [hd] at HBE
                    clear hd
                    have hkk := HK.out (by omega)
                    clear HK HS
                    go_wp2_with fail
                    refine (HBE.out _).mono ?_
                    rintro e w2 ⟨rfl, hb2⟩
                    obtain ⟨hc2, hf2⟩ := bcell hb2
                    have hz2 := hb2.size
                    try simp at hz2
                    have z2_0 : w.heap.size < w2.heap.size := by omega
                    have z2_1 : w1.heap.size < w2.heap.size := by omega
                    go_wp2
                    go_roundw
                    case rel =>
                      refine ⟨4, g, b, by omega, by go_num, rfl, hst, ?_, hlt, fun hb => by
                        obtain ⟨e, p, q, s⟩ := hno hb
                        refine ⟨e, p, q, ?_⟩
                        rw [← e]
                        rw [← e] at s
                        unfold PN1 at *
                        obtain ⟨q0, q1, q2, q3⟩ := s
                        exact ⟨fun _ => q0 (by omega), fun _ => q1 (by omega), fun _ => q2 (by omega), fun _ => hkk⟩⟩
                      constructor
                      · repeat (first | exact Below.refl _ _ | assumption | exact Below.alloc (Below.refl _ _) (Nat.le_refl _) _ | refine Below.setCell ?_ (by first | (simp; done) | (simp; omega) | omega) _ | refine below_drewN ?_ _ | refine Below.alloc ?_ (by first | (simp; done) | (simp; omega) | omega) _ | refine Below.trans ?_ (Below.mono (by assumption) (by first | (simp; done) | (simp; omega) | omega)))
                      · first | (simp; done) | (simp; omega) | omega
                      · omega
                      · intro o; go_simp
                      all_goals first | (go_simp; done) | (go_simp; rfl)
                    case measure => simp [intOf] <;> omega
                · try simp only [show ((0 : Nat) : Int) = 0 from rfl, show ((1 : Nat) : Int) = 1 from rfl, show ((2 : Nat) : Int) = 2 from rfl, show ((3 : Nat) : Int) = 3 from rfl, show ((4 : Nat) : Int) = 4 from rfl]
                  go_wp2
                  go_roundw
                  case rel =>
                    refine ⟨2, g, b, by omega, by go_num, rfl, hst, ?_, hlt, fun hb => by
                      obtain ⟨e, p, q, s⟩ := hno hb
                      refine ⟨e, ?_⟩
                      unfold PI3 PJ1 PN1 at *
                      obtain ⟨p0, p1, p2⟩ := p
                      obtain ⟨q1, q2⟩ := q
                      obtain ⟨s0, s1, s2, s3⟩ := s
                      exact ⟨fun _ => p0 (by omega), fun _ => ⟨q1 (by omega), q2 (by omega), s0 (by omega), s1 (by omega), s2 (by omega), s3 (by omega)⟩, fun hh => absurd hh (by omega)⟩⟩
                    constructor
                    · repeat (first | exact Below.refl _ _ | assumption | exact Below.alloc (Below.refl _ _) (Nat.le_refl _) _ | refine Below.setCell ?_ (by first | (simp; done) | (simp; omega) | omega) _ | refine below_drewN ?_ _ | refine Below.alloc ?_ (by first | (simp; done) | (simp; omega) | omega) _ | refine Below.trans ?_ (Below.mono (by assumption) (by first | (simp; done) | (simp; omega) | omega)))
                    · first | (simp; done) | (simp; omega) | omega
                    · omega
                    · intro o; go_simp
                    all_goals first | (go_simp; done) | (go_simp; rfl)
                  case measure => simp [intOf] <;> omega
        · try simp only [show ((0 : Nat) : Int) = 0 from rfl, show ((1 : Nat) : Int) = 1 from rfl, show ((2 : Nat) : Int) = 2 from rfl, show ((3 : Nat) : Int) = 3 from rfl, show ((4 : Nat) : Int) = 4 from rfl]
          go_wp2
          go_loopw [8, 6] (fun j t wr => ∃ (jj : Nat) (g : Met) (b : Bool), jj ≤ 3 ∧ j = .int .i64 jj ∧ t = .bool b ∧ St m g ∧ CI w w.heap.size w1.heap.size g wr ∧ (b = true → tr3 g < tr3 g0) ∧ (b = false → g = g0 ∧ PI3 2 g0 ∧ PJ2 jj g0)) (fun j _ _ => 3 - (intOf j).toNat)
          case atStart =>
            refine ⟨0, g, b, by omega, rfl, rfl, hst, ?_, hlt, fun hb => ?_⟩
            · constructor
              · repeat (first | exact Below.refl _ _ | assumption | exact Below.alloc (Below.refl _ _) (Nat.le_refl _) _ | refine Below.setCell ?_ (by first | (simp; done) | (simp; omega) | omega) _ | refine below_drewN ?_ _ | refine Below.alloc ?_ (by first | (simp; done) | (simp; omega) | omega) _ | refine Below.trans ?_ (Below.mono (by assumption) (by first | (simp; done) | (simp; omega) | omega)))
              · first | (simp; done) | (simp; omega) | omega
              · omega
              · intro o; go_simp
              all_goals first | (go_simp; done) | (go_simp; rfl)
            · obtain ⟨e, p⟩ := hno hb
              refine ⟨e, p, ?_⟩
              unfold PJ2
              exact ⟨fun hh => absurd hh (by omega), fun hh => absurd hh (by omega)⟩
          case round =>
            clear below zg zb qq fz hst hlt hno c0 c1 c2 c3 c4 c5 c6 c7 c8
            obtain ⟨jj, g, b, hk, rfl, rfl, hst, hci, hlt, hno⟩ := hrel
            obtain ⟨below, zg, zB, fz, c0, c1, c2, c3, c4, c5, c6, c7, c8⟩ := hci
            have zb := below.size
            have qq : w.heap.size < wr.heap.size := by omega
            rcases (by omega : jj = 0 ∨ jj = 1 ∨ jj = 2 ∨ jj = 3) with rfl | rfl | rfl | rfl
            · try simp only [show ((0 : Nat) : Int) = 0 from rfl, show ((1 : Nat) : Int) = 1 from rfl, show ((2 : Nat) : Int) = 2 from rfl, show ((3 : Nat) : Int) = 3 from rfl, show ((4 : Nat) : Int) = 4 from rfl]
              obtain ⟨r, rb, RO, BE, AD, hk, hs⟩ := stepR_20 hst
              obtain ⟨g1, eg⟩ : ∃ q, q = ad20 (-r) g := ⟨_, rfl⟩
              rw [← eg] at BE AD hk hs
              clear eg
              have hw : wrap64 (-r) = -r := wrapE (by omega) (by omega)
              have HRO := Lib.hid RO; have HBE := Lib.hid BE; have HAD := Lib.hid AD; clear RO BE AD
              have HK := Lib.hid hk; have HS := Lib.hid hs; clear hk hs
              rcases Classical.em (r = 0) with hr | hr
              · have hkk := HK.out (Or.inl hr)
                have hr1 : (r != 0) = false := by simp [hr]
                have hr2 : (r == 0) = true := by simp [hr]
                clear HK HS
                go_wp2
                refine region_head 11 (by kernel_rfl) (by kernel_rfl) ?_
                simp only [List.take_succ_cons, List.take_zero, List.drop_succ_cons, List.drop_zero]
                repeat (go_big_quiet_step ((go_at_call 48; exact held_of _ (Nat.le_refl _) (HRO.out _))))
                refine wpQuiet_nil ?_
                rintro x1 ⟨⟨w0, hbx1⟩, rfl⟩
                obtain ⟨hcx1, hfx1⟩ := bcell hbx1
                have hzx1 := hbx1.size
                try simp at hzx1
                have zx1_0 : w.heap.size < x1.heap.size := by omega
                have zx1_1 : w1.heap.size < x1.heap.size := by omega
                clear HBE HAD
                go_wp2
                go_roundw
                case rel =>
                  refine ⟨1, g, b, by omega, by go_num, rfl, hst, ?_, hlt, fun hb => by
                    obtain ⟨e, p, q⟩ := hno hb
                    refine ⟨e, p, ?_⟩
                    rw [← e]
                    rw [← e] at q
                    unfold PJ2 at *
                    exact ⟨fun _ => hkk, fun hh => absurd hh (by omega)⟩⟩
                  constructor
                  · repeat (first | exact Below.refl _ _ | assumption | exact Below.alloc (Below.refl _ _) (Nat.le_refl _) _ | refine Below.setCell ?_ (by first | (simp; done) | (simp; omega) | omega) _ | refine below_drewN ?_ _ | refine Below.alloc ?_ (by first | (simp; done) | (simp; omega) | omega) _ | refine Below.trans ?_ (Below.mono (by assumption) (by first | (simp; done) | (simp; omega) | omega)))
                  · first | (simp; done) | (simp; omega) | omega
                  · omega
                  · intro o; go_simp
                  all_goals first | (go_simp; done) | (go_simp; rfl)
                case measure => simp [intOf] <;> omega
              · have hr1 : (r != 0) = true := by simp [hr]
                have hr2 : (r == 0) = false := by rw [beq_eq_false_iff_ne]; exact hr
                go_wp2
                refine region_head 11 (by kernel_rfl) (by kernel_rfl) ?_
                simp only [List.take_succ_cons, List.take_zero, List.drop_succ_cons, List.drop_zero]
                repeat (go_big_quiet_step ((go_at_call 48; exact held_of _ (Nat.le_refl _) (HRO.out _))))
                refine wpQuiet_nil ?_
                rintro x1 ⟨⟨w0, hbx1⟩, rfl⟩
                obtain ⟨hcx1, hfx1⟩ := bcell hbx1
                have hzx1 := hbx1.size
                try simp at hzx1
                have zx1_0 : w.heap.size < x1.heap.size := by omega
                have zx1_1 : w1.heap.size < x1.heap.size := by omega
                rcases Classical.em (g1.cc < g.cc) with hbt | hbt
                · have hd : decide (g1.cc < g.cc) = true := decide_eq_true hbt
                  rw [hd] at HBE
                  clear hd
                  obtain ⟨hst1, htr⟩ := HS.out hbt
                  have hlt2 : tr3 g1 < tr3 g0 := by
                    cases b with
                    | true => have := hlt rfl; omega
                    | false => obtain ⟨e, _⟩ := hno rfl; rw [← e]; exact htr
                  clear HK
                  go_wp2_with fail
                  refine (HBE.out _).mono ?_
                  rintro e w2 ⟨rfl, hb2⟩
                  obtain ⟨hc2, hf2⟩ := bcell hb2
                  have hz2 := hb2.size
                  try simp at hz2
                  have z2_0 : w.heap.size < w2.heap.size := by omega
                  have z2_1 : w1.heap.size < w2.heap.size := by omega
                  go_wp2_with fail
                  refine (HAD.out _).mono ?_
                  rintro e w3 ⟨rfl, hb3⟩
                  obtain ⟨hc3, hf3⟩ := bcell hb3
                  have hz3 := hb3.size
                  try simp at hz3
                  have z3_0 : w.heap.size < w3.heap.size := by omega
                  have z3_1 : w1.heap.size < w3.heap.size := by omega
                  go_wp2
                  go_roundw
                  case rel =>
                    refine ⟨1, g1, true, by omega, by go_num, rfl, hst1, ?_, fun _ => hlt2, fun hb => (by cases hb)⟩
                    constructor
                    · repeat (first | exact Below.refl _ _ | assumption | exact Below.alloc (Below.refl _ _) (Nat.le_refl _) _ | refine Below.setCell ?_ (by first | (simp; done) | (simp; omega) | omega) _ | refine below_drewN ?_ _ | refine Below.alloc ?_ (by first | (simp; done) | (simp; omega) | omega) _ | refine Below.trans ?_ (Below.mono (by assumption) (by first | (simp; done) | (simp; omega) | omega)))
                    · first | (simp; done) | (simp; omega) | omega
                    · omega
                    · intro o; go_simp
                    all_goals first | (go_simp; done) | (go_simp; rfl)
                  case measure => simp [intOf] <;> omega
                · have hd : decide (g1.cc < g.cc) = false := decide_eq_false hbt
                  rw [hd] at HBE
                  clear hd
                  have hkk := HK.out (Or.inr (by omega))
                  clear HK HS
                  go_wp2_with fail
                  refine (HBE.out _).mono ?_
                  rintro e w2 ⟨rfl, hb2⟩
                  obtain ⟨hc2, hf2⟩ := bcell hb2
                  have hz2 := hb2.size
                  try simp at hz2
                  have z2_0 : w.heap.size < w2.heap.size := by omega
                  have z2_1 : w1.heap.size < w2.heap.size := by omega
                  go_wp2
                  go_roundw
                  case rel =>
                    refine ⟨1, g, b, by omega, by go_num, rfl, hst, ?_, hlt, fun hb => by
                      obtain ⟨e, p, q⟩ := hno hb
                      refine ⟨e, p, ?_⟩
                      rw [← e]
                      rw [← e] at q
                      unfold PJ2 at *
                      exact ⟨fun _ => hkk, fun hh => absurd hh (by omega)⟩⟩
                    constructor
                    · repeat (first | exact Below.refl _ _ | assumption | exact Below.alloc (Below.refl _ _) (Nat.le_refl _) _ | refine Below.setCell ?_ (by first | (simp; done) | (simp; omega) | omega) _ | refine below_drewN ?_ _ | refine Below.alloc ?_ (by first | (simp; done) | (simp; omega) | omega) _ | refine Below.trans ?_ (Below.mono (by assumption) (by first | (simp; done) | (simp; omega) | omega)))
                    · first | (simp; done) | (simp; omega) | omega
                    · omega
                    · intro o; go_simp
                    all_goals first | (go_simp; done) | (go_simp; rfl)
                  case measure => simp [intOf] <;> omega
            · try simp only [show ((0 : Nat) : Int) = 0 from rfl, show ((1 : Nat) : Int) = 1 from rfl, show ((2 : Nat) : Int) = 2 from rfl, show ((3 : Nat) : Int) = 3 from rfl, show ((4 : Nat) : Int) = 4 from rfl]
              obtain ⟨r, rb, RO, BE, AD, hk, hs⟩ := stepR_21 hst
              obtain ⟨g1, eg⟩ : ∃ q, q = ad21 (-r) g := ⟨_, rfl⟩
              rw [← eg] at BE AD hk hs
              clear eg
              have hw : wrap64 (-r) = -r := wrapE (by omega) (by omega)
              have HRO := Lib.hid RO; have HBE := Lib.hid BE; have HAD := Lib.hid AD; clear RO BE AD
              have HK := Lib.hid hk; have HS := Lib.hid hs; clear hk hs
              rcases Classical.em (r = 0) with hr | hr
              · have hkk := HK.out (Or.inl hr)
                have hr1 : (r != 0) = false := by simp [hr]
                have hr2 : (r == 0) = true := by simp [hr]
                clear HK HS
                go_wp2
                refine region_head 11 (by kernel_rfl) (by kernel_rfl) ?_
                simp only [List.take_succ_cons, List.take_zero, List.drop_succ_cons, List.drop_zero]
                repeat (go_big_quiet_step ((go_at_call 48; exact held_of _ (Nat.le_refl _) (HRO.out _))))
                refine wpQuiet_nil ?_
                rintro x1 ⟨⟨w0, hbx1⟩, rfl⟩
                obtain ⟨hcx1, hfx1⟩ := bcell hbx1
                have hzx1 := hbx1.size
                try simp at hzx1
                have zx1_0 : w.heap.size < x1.heap.size := by omega
                have zx1_1 : w1.heap.size < x1.heap.size := by omega
                clear HBE HAD
                go_wp2
                go_roundw
                case rel =>
                  refine ⟨2, g, b, by omega, by go_num, rfl, hst, ?_, hlt, fun hb => by
                    obtain ⟨e, p, q⟩ := hno hb
                    refine ⟨e, p, ?_⟩
                    rw [← e]
                    rw [← e] at q
                    unfold PJ2 at *
                    exact ⟨fun _ => q.1 (by omega), fun _ => hkk⟩⟩
                  constructor
                  · repeat (first | exact Below.refl _ _ | assumption | exact Below.alloc (Below.refl _ _) (Nat.le_refl _) _ | refine Below.setCell ?_ (by first | (simp; done) | (simp; omega) | omega) _ | refine below_drewN ?_ _ | refine Below.alloc ?_ (by first | (simp; done) | (simp; omega) | omega) _ | refine Below.trans ?_ (Below.mono (by assumption) (by first | (simp; done) | (simp; omega) | omega)))
                  · first | (simp; done) | (simp; omega) | omega
                  · omega
                  · intro o; go_simp
                  all_goals first | (go_simp; done) | (go_simp; rfl)
                case measure => simp [intOf] <;> omega
              · have hr1 : (r != 0) = true := by simp [hr]
                have hr2 : (r == 0) = false := by rw [beq_eq_false_iff_ne]; exact hr
                go_wp2
                refine region_head 11 (by kernel_rfl) (by kernel_rfl) ?_
                simp only [List.take_succ_cons, List.take_zero, List.drop_succ_cons, List.drop_zero]
                repeat (go_big_quiet_step ((go_at_call 48; exact held_of _ (Nat.le_refl _) (HRO.out _))))
                refine wpQuiet_nil ?_
                rintro x1 ⟨⟨w0, hbx1⟩, rfl⟩
                obtain ⟨hcx1, hfx1⟩ := bcell hbx1
                have hzx1 := hbx1.size
                try simp at hzx1
                have zx1_0 : w.heap.size < x1.heap.size := by omega
                have zx1_1 : w1.heap.size < x1.heap.size := by omega
                rcases Classical.em (g1.cc < g.cc) with hbt | hbt
                · have hd : decide (g1.cc < g.cc) = true := decide_eq_true hbt
                  rw [hd] at HBE
                  clear hd
                  obtain ⟨hst1, htr⟩ := HS.out hbt
                  have hlt2 : tr3 g1 < tr3 g0 := by
                    cases b with
                    | true => have := hlt rfl; omega
                    | false => obtain ⟨e, _⟩ := hno rfl; rw [← e]; exact htr
                  clear HK
                  go_wp2_with fail
                  refine (HBE.out _).mono ?_
                  rintro e w2 ⟨rfl, hb2⟩
                  obtain ⟨hc2, hf2⟩ := bcell hb2
                  have hz2 := hb2.size
                  try simp at hz2
                  have z2_0 : w.heap.size < w2.heap.size := by omega
                  have z2_1 : w1.heap.size < w2.heap.size := by omega
                  go_wp2_with fail
                  refine (HAD.out _).mono ?_
                  rintro e w3 ⟨rfl, hb3⟩
                  obtain ⟨hc3, hf3⟩ := bcell hb3
                  have hz3 := hb3.size
                  try simp at hz3
                  have z3_0 : w.heap.size < w3.heap.size := by omega
                  have z3_1 : w1.heap.size < w3.heap.size := by omega
                  go_wp2
                  go_roundw
                  case rel =>
                    refine ⟨2, g1, true, by omega, by go_num, rfl, hst1, ?_, fun _ => hlt2, fun hb => (by cases hb)⟩
                    constructor
                    · repeat (first | exact Below.refl _ _ | assumption | exact Below.alloc (Below.refl _ _) (Nat.le_refl _) _ | refine Below.setCell ?_ (by first | (simp; done) | (simp; omega) | omega) _ | refine below_drewN ?_ _ | refine Below.alloc ?_ (by first | (simp; done) | (simp; omega) | omega) _ | refine Below.trans ?_ (Below.mono (by assumption) (by first | (simp; done) | (simp; omega) | omega)))
                    · first | (simp; done) | (simp; omega) | omega
                    · omega
                    · intro o; go_simp
                    all_goals first | (go_simp; done) | (go_simp; rfl)
                  case measure => simp [intOf] <;> omega
                · have hd : decide (g1.cc < g.cc) = false := decide_eq_false hbt
                  rw [hd] at HBE
                  clear hd
                  have hkk := HK.out (Or.inr (by omega))
                  clear HK HS
                  go_wp2_with fail
                  refine (HBE.out _).mono ?_
                  rintro e w2 ⟨rfl, hb2⟩
                  obtain ⟨hc2, hf2⟩ := bcell hb2
                  have hz2 := hb2.size
                  try simp at hz2
                  have z2_0 : w.heap.size < w2.heap.size := by omega
                  have z2_1 : w1.heap.size < w2.heap.size := by omega
                  go_wp2
                  go_roundw
                  case rel =>
                    refine ⟨2, g, b, by omega, by go_num, rfl, hst, ?_, hlt, fun hb => by
                      obtain ⟨e, p, q⟩ := hno hb
                      refine ⟨e, p, ?_⟩
                      rw [← e]
                      rw [← e] at q
                      unfold PJ2 at *
                      exact ⟨fun _ => q.1 (by omega), fun _ => hkk⟩⟩
                    constructor
                    · repeat (first | exact Below.refl _ _ | assumption | exact Below.alloc (Below.refl _ _) (Nat.le_refl _) _ | refine Below.setCell ?_ (by first | (simp; done) | (simp; omega) | omega) _ | refine below_drewN ?_ _ | refine Below.alloc ?_ (by first | (simp; done) | (simp; omega) | omega) _ | refine Below.trans ?_ (Below.mono (by assumption) (by first | (simp; done) | (simp; omega) | omega)))
                    · first | (simp; done) | (simp; omega) | omega
                    · omega
                    · intro o; go_simp
                    all_goals first | (go_simp; done) | (go_simp; rfl)
                  case measure => simp [intOf] <;> omega
            · try simp only [show ((0 : Nat) : Int) = 0 from rfl, show ((1 : Nat) : Int) = 1 from rfl, show ((2 : Nat) : Int) = 2 from rfl, show ((3 : Nat) : Int) = 3 from rfl, show ((4 : Nat) : Int) = 4 from rfl]
              go_wp2
              go_roundw
              case rel =>
                refine ⟨3, g, b, by omega, by go_num, rfl, hst, ?_, hlt, fun hb => by
                  obtain ⟨e, p, q⟩ := hno hb
                  refine ⟨e, p, ?_⟩
                  unfold PJ2 at *
                  exact ⟨fun _ => q.1 (by omega), fun _ => q.2 (by omega)⟩⟩
                constructor
                · repeat (first | exact Below.refl _ _ | assumption | exact Below.alloc (Below.refl _ _) (Nat.le_refl _) _ | refine Below.setCell ?_ (by first | (simp; done) | (simp; omega) | omega) _ | refine below_drewN ?_ _ | refine Below.alloc ?_ (by first | (simp; done) | (simp; omega) | omega) _ | refine Below.trans ?_ (Below.mono (by assumption) (by first | (simp; done) | (simp; omega) | omega)))
                · first | (simp; done) | (simp; omega) | omega
                · omega
                · intro o; go_simp
                all_goals first | (go_simp; done) | (go_simp; rfl)
              case measure => simp [intOf] <;> omega
            · try simp only [show ((0 : Nat) : Int) = 0 from rfl, show ((1 : Nat) : Int) = 1 from rfl, show ((2 : Nat) : Int) = 2 from rfl, show ((3 : Nat) : Int) = 3 from rfl, show ((4 : Nat) : Int) = 4 from rfl]
              go_wp2
              go_loopw [12, 6] (fun n t wr => ∃ (nn : Nat) (g : Met) (b : Bool), nn ≤ 4 ∧ n = .int .i64 nn ∧ t = .bool b ∧ St m g ∧ CI w w.heap.size w1.heap.size g wr ∧ (b = true → tr3 g < tr3 g0) ∧ (b = false → g = g0 ∧ PI3 2 g0 ∧ PJ2 3 g0 ∧ PN2 nn g0)) (fun n _ _ => 4 - (intOf n).toNat)
              case atStart =>
                refine ⟨0, g, b, by omega, rfl, rfl, hst, ?_, hlt, fun hb => ?_⟩
                · constructor
                  · repeat (first | exact Below.refl _ _ | assumption | exact Below.alloc (Below.refl _ _) (Nat.le_refl _) _ | refine Below.setCell ?_ (by first | (simp; done) | (simp; omega) | omega) _ | refine below_drewN ?_ _ | refine Below.alloc ?_ (by first | (simp; done) | (simp; omega) | omega) _ | refine Below.trans ?_ (Below.mono (by assumption) (by first | (simp; done) | (simp; omega) | omega)))
                  · first | (simp; done) | (simp; omega) | omega
                  · omega
                  · intro o; go_simp
                  all_goals first | (go_simp; done) | (go_simp; rfl)
                · obtain ⟨e, p, q⟩ := hno hb
                  refine ⟨e, p, q, ?_⟩
                  unfold PN2
                  exact ⟨fun hh => absurd hh (by omega), fun hh => absurd hh (by omega), fun hh => absurd hh (by omega), fun hh => absurd hh (by omega)⟩
              case round =>
                clear below zg zb qq fz hst hlt hno c0 c1 c2 c3 c4 c5 c6 c7 c8
                obtain ⟨nn, g, b, hk, rfl, rfl, hst, hci, hlt, hno⟩ := hrel
                obtain ⟨below, zg, zB, fz, c0, c1, c2, c3, c4, c5, c6, c7, c8⟩ := hci
                have zb := below.size
                have qq : w.heap.size < wr.heap.size := by omega
                rcases (by omega : nn = 0 ∨ nn = 1 ∨ nn = 2 ∨ nn = 3 ∨ nn = 4) with rfl | rfl | rfl | rfl | rfl
                · try simp only [show ((0 : Nat) : Int) = 0 from rfl, show ((1 : Nat) : Int) = 1 from rfl, show ((2 : Nat) : Int) = 2 from rfl, show ((3 : Nat) : Int) = 3 from rfl, show ((4 : Nat) : Int) = 4 from rfl]
                  obtain ⟨BE, AD, AE, hk, hs⟩ := stepS_20 hst
                  obtain ⟨g1, eg1⟩ : ∃ q, q = ad20 (-1) g := ⟨_, rfl⟩
                  rw [← eg1] at BE AD AE hk hs
                  obtain ⟨g2, eg2⟩ : ∃ q, q = ad21 (-1) g1 := ⟨_, rfl⟩
                  rw [← eg2] at BE AE hk hs
                  clear eg1 eg2
                  have HBE := Lib.hid BE; have HAD := Lib.hid AD; have HAE := Lib.hid AE; clear BE AD AE
                  have HK := Lib.hid hk; have HS := Lib.hid hs; clear hk hs
                  rcases Classical.em (g2.cc < g.cc) with hbt | hbt
                  · have hd : decide (g2.cc < g.cc) = true := decide_eq_true hbt
                    rw [hd] at HBE
                    clear hd
                    obtain ⟨hst1, htr⟩ := HS.out hbt
                    have hlt2 : tr3 g2 < tr3 g0 := by
                      cases b with
                      | true => have := hlt rfl; omega
                      | false => obtain ⟨e, _⟩ := hno rfl; rw [← e]; exact htr
                    clear HK
                    go_wp2_with fail
                    refine (HBE.out _).mono ?_
                    rintro e w2 ⟨rfl, hb2⟩
                    obtain ⟨hc2, hf2⟩ := bcell hb2
                    have hz2 := hb2.size
                    try simp at hz2
                    have z2_0 : w.heap.size < w2.heap.size := by omega
                    have z2_1 : w1.heap.size < w2.heap.size := by omega
                    go_wp2_with fail
                    refine (HAD.out _).mono ?_
                    rintro e w3 ⟨rfl, hb3⟩
                    obtain ⟨hc3, hf3⟩ := bcell hb3
                    have hz3 := hb3.size
                    try simp at hz3
                    have z3_0 : w.heap.size < w3.heap.size := by omega
                    have z3_1 : w1.heap.size < w3.heap.size := by omega
                    go_wp2_with fail
                    refine (HAE.out _).mono ?_
                    rintro e w4 ⟨rfl, hb4⟩
                    obtain ⟨hc4, hf4⟩ := bcell hb4
                    have hz4 := hb4.size
                    try simp at hz4
                    have z4_0 : w.heap.size < w4.heap.size := by omega
                    have z4_1 : w1.heap.size < w4.heap.size := by omega
                    go_wp2
                    go_roundw
                    case rel =>
                      refine ⟨1, g2, true, by omega, by go_num, rfl, hst1, ?_, fun _ => hlt2, fun hb => (by cases hb)⟩
                      constructor
                      · repeat (first | exact Below.refl _ _ | assumption | exact Below.alloc (Below.refl _ _) (Nat.le_refl _) _ | refine Below.setCell ?_ (by first | (simp; done) | (simp; omega) | omega) _ | refine below_drewN ?_ _ | refine Below.alloc ?_ (by first | (simp; done) | (simp; omega) | omega) _ | refine Below.trans ?_ (Below.mono (by assumption) (by first | (simp; done) | (simp; omega) | omega)))
                      · first | (simp; done) | (simp; omega) | omega
                      · omega
                      · intro o; go_simp
                      all_goals first | (go_simp; done) | (go_simp; rfl)
                    case measure => simp [intOf] <;> omega
                  · have hd : decide (g2.cc < g.cc) = false := decide_eq_false hbt
                    rw [hd] at HBE
                    clear hd
                    have hkk := HK.out (by omega)
                    clear HK HS
                    go_wp2_with fail
                    refine (HBE.out _).mono ?_
                    rintro e w2 ⟨rfl, hb2⟩
                    obtain ⟨hc2, hf2⟩ := bcell hb2
                    have hz2 := hb2.size
                    try simp at hz2
                    have z2_0 : w.heap.size < w2.heap.size := by omega
                    have z2_1 : w1.heap.size < w2.heap.size := by omega
                    go_wp2
                    go_roundw
                    case rel =>
                      refine ⟨1, g, b, by omega, by go_num, rfl, hst, ?_, hlt, fun hb => by
                        obtain ⟨e, p, q, s⟩ := hno hb
                        refine ⟨e, p, q, ?_⟩
                        rw [← e]
                        rw [← e] at s
                        unfold PN2 at *
                        obtain ⟨q0, q1, q2, q3⟩ := s
                        exact ⟨fun _ => hkk, fun hh => absurd hh (by omega), fun hh => absurd hh (by omega), fun hh => absurd hh (by omega)⟩⟩
                      constructor
                      · repeat (first | exact Below.refl _ _ | assumption | exact Below.alloc (Below.refl _ _) (Nat.le_refl _) _ | refine Below.setCell ?_ (by first | (simp; done) | (simp; omega) | omega) _ | refine below_drewN ?_ _ | refine Below.alloc ?_ (by first | (simp; done) | (simp; omega) | omega) _ | refine Below.trans ?_ (Below.mono (by assumption) (by first | (simp; done) | (simp; omega) | omega)))
                      · first | (simp; done) | (simp; omega) | omega
                      · omega
                      · intro o; go_simp
                      all_goals first | (go_simp; done) | (go_simp; rfl)
                    case measure => simp [intOf] <;> omega
                · try simp only [show ((0 : Nat) : Int) = 0 from rfl, show ((1 : Nat) : Int) = 1 from rfl, show ((2 : Nat) : Int) = 2 from rfl, show ((3 : Nat) : Int) = 3 from rfl, show ((4 : Nat) : Int) = 4 from rfl]
                  obtain ⟨BE, AD, AE, hk, hs⟩ := stepS_21 hst
                  obtain ⟨g1, eg1⟩ : ∃ q, q = ad20 (1) g := ⟨_, rfl⟩
                  rw [← eg1] at BE AD AE hk hs
                  obtain ⟨g2, eg2⟩ : ∃ q, q = ad21 (-1) g1 := ⟨_, rfl⟩
                  rw [← eg2] at BE AE hk hs
                  clear eg1 eg2
                  have HBE := Lib.hid BE; have HAD := Lib.hid AD; have HAE := Lib.hid AE; clear BE AD AE
                  have HK := Lib.hid hk; have HS := Lib.hid hs; clear hk hs
                  rcases Classical.em (g2.cc < g.cc) with hbt | hbt
                  · have hd : decide (g2.cc < g.cc) = true := decide_eq_true hbt
                    rw [hd] at HBE
                    clear hd
                    obtain ⟨hst1, htr⟩ := HS.out hbt
                    have hlt2 : tr3 g2 < tr3 g0 := by
                      cases b with
                      | true => have := hlt rfl; omega
                      | false => obtain ⟨e, _⟩ := hno rfl; rw [← e]; exact htr
                    clear HK
                    go_wp2_with fail
                    refine (HBE.out _).mono ?_
                    rintro e w2 ⟨rfl, hb2⟩
                    obtain ⟨hc2, hf2⟩ := bcell hb2
                    have hz2 := hb2.size
                    try simp at hz2
                    have z2_0 : w.heap.size < w2.heap.size := by omega
                    have z2_1 : w1.heap.size < w2.heap.size := by omega
                    go_wp2_with fail
                    refine (HAD.out _).mono ?_
                    rintro e w3 ⟨rfl, hb3⟩
                    obtain ⟨hc3, hf3⟩ := bcell hb3
                    have hz3 := hb3.size
                    try simp at hz3
                    have z3_0 : w.heap.size < w3.heap.size := by omega
                    have z3_1 : w1.heap.size < w3.heap.size := by omega
                    go_wp2_with fail
                    refine (HAE.out _).mono ?_
                    rintro e w4 ⟨rfl, hb4⟩
                    obtain ⟨hc4, hf4⟩ := bcell hb4
                    have hz4 := hb4.size
                    try simp at hz4
                    have z4_0 : w.heap.size < w4.heap.size := by omega
                    have z4_1 : w1.heap.size < w4.heap.size := by omega
                    go_wp2
                    go_roundw
                    case rel =>
                      refine ⟨2, g2, true, by omega, by go_num, rfl, hst1, ?_, fun _ => hlt2, fun hb => (by cases hb)⟩
                      constructor
                      · repeat (first | exact Below.refl _ _ | assumption | exact Below.alloc (Below.refl _ _) (Nat.le_refl _) _ | refine Below.setCell ?_ (by first | (simp; done) | (simp; omega) | omega) _ | refine below_drewN ?_ _ | refine Below.alloc ?_ (by first | (simp; done) | (simp; omega) | omega) _ | refine Below.trans ?_ (Below.mono (by assumption) (by first | (simp; done) | (simp; omega) | omega)))
                      · first | (simp; done) | (simp; omega) | omega
                      · omega
                      · intro o; go_simp
                      all_goals first | (go_simp; done) | (go_simp; rfl)
                    case measure => simp [intOf] <;> omega
                  · have hd : decide (g2.cc < g.cc) = false := decide_eq_false hbt
                    rw [hd] at HBE
                    clear hd
                    have hkk := HK.out (by omega)
                    clear HK HS
                    go_wp2_with fail
                    refine (HBE.out _).mono ?_
                    rintro e w2 ⟨rfl, hb2⟩
                    obtain ⟨hc2, hf2⟩ := bcell hb2
                    have hz2 := hb2.size
                    try simp at hz2
                    have z2_0 : w.heap.size < w2.heap.size := by omega
                    have z2_1 : w1.heap.size < w2.heap.size := by omega
                    go_wp2
                    go_roundw
                    case rel =>
                      refine ⟨2, g, b, by omega, by go_num, rfl, hst, ?_, hlt, fun hb => by
                        obtain ⟨e, p, q, s⟩ := hno hb
                        refine ⟨e, p, q, ?_⟩
                        rw [← e]
                        rw [← e] at s
                        unfold PN2 at *
                        obtain ⟨q0, q1, q2, q3⟩ := s
                        exact ⟨fun _ => q0 (by omega), fun _ => hkk, fun hh => absurd hh (by omega), fun hh => absurd hh (by omega)⟩⟩
                      constructor
                      · repeat (first | exact Below.refl _ _ | assumption | exact Below.alloc (Below.refl _ _) (Nat.le_refl _) _ | refine Below.setCell ?_ (by first | (simp; done) | (simp; omega) | omega) _ | refine below_drewN ?_ _ | refine Below.alloc ?_ (by first | (simp; done) | (simp; omega) | omega) _ | refine Below.trans ?_ (Below.mono (by assumption) (by first | (simp; done) | (simp; omega) | omega)))
                      · first | (simp; done) | (simp; omega) | omega
                      · omega
                      · intro o; go_simp
                      all_goals first | (go_simp; done) | (go_simp; rfl)
                    case measure => simp [intOf] <;> omega
                · try simp only [show ((0 : Nat) : Int) = 0 from rfl, show ((1 : Nat) : Int) = 1 from rfl, show ((2 : Nat) : Int) = 2 from rfl, show ((3 : Nat) : Int) = 3 from rfl, show ((4 : Nat) : Int) = 4 from rfl]
                  obtain ⟨BE, AD, AE, hk, hs⟩ := stepS_22 hst
                  obtain ⟨g1, eg1⟩ : ∃ q, q = ad20 (-1) g := ⟨_, rfl⟩
                  rw [← eg1] at BE AD AE hk hs
                  obtain ⟨g2, eg2⟩ : ∃ q, q = ad21 (1) g1 := ⟨_, rfl⟩
                  rw [← eg2] at BE AE hk hs
                  clear eg1 eg2
                  have HBE := Lib.hid BE; have HAD := Lib.hid AD; have HAE := Lib.hid AE; clear BE AD AE
                  have HK := Lib.hid hk; have HS := Lib.hid hs; clear hk hs
                  rcases Classical.em (g2.cc < g.cc) with hbt | hbt
                  · have hd : decide (g2.cc < g.cc) = true := decide_eq_true hbt
                    rw [hd] at HBE
                    clear hd
                    obtain ⟨hst1, htr⟩ := HS.out hbt
                    have hlt2 : tr3 g2 < tr3 g0 := by
                      cases b with
                      | true => have := hlt rfl; omega
                      | false => obtain ⟨e, _⟩ := hno rfl; rw [← e]; exact htr
                    clear HK
                    go_wp2_with fail
                    refine (HBE.out _).mono ?_
                    rintro e w2 ⟨rfl, hb2⟩
                    obtain ⟨hc2, hf2⟩ := bcell hb2
                    have hz2 := hb2.size
                    try simp at hz2
                    have z2_0 : w.heap.size < w2.heap.size := by omega
                    have z2_1 : w1.heap.size < w2.heap.size := by omega
                    go_wp2_with fail
                    refine (HAD.out _).mono ?_
                    rintro e w3 ⟨rfl, hb3⟩
                    obtain ⟨hc3, hf3⟩ := bcell hb3
                    have hz3 := hb3.size
                    try simp at hz3
                    have z3_0 : w.heap.size < w3.heap.size := by omega
                    have z3_1 : w1.heap.size < w3.heap.size := by omega
                    go_wp2_with fail
                    refine (HAE.out _).mono ?_
                    rintro e w4 ⟨rfl, hb4⟩
                    obtain ⟨hc4, hf4⟩ := bcell hb4
                    have hz4 := hb4.size
                    try simp at hz4
                    have z4_0 : w.heap.size < w4.heap.size := by omega
                    have z4_1 : w1.heap.size < w4.heap.size := by omega
                    go_wp2
                    go_roundw
                    case rel =>
                      refine ⟨3, g2, true, by omega, by go_num, rfl, hst1, ?_, fun _ => hlt2, fun hb => (by cases hb)⟩
                      constructor
                      · repeat (first | exact Below.refl _ _ | assumption | exact Below.alloc (Below.refl _ _) (Nat.le_refl _) _ | refine Below.setCell ?_ (by first | (simp; done) | (simp; omega) | omega) _ | refine below_drewN ?_ _ | refine Below.alloc ?_ (by first | (simp; done) | (simp; omega) | omega) _ | refine Below.trans ?_ (Below.mono (by assumption) (by first | (simp; done) | (simp; omega) | omega)))
                      · first | (simp; done) | (simp; omega) | omega
                      · omega
                      · intro o; go_simp
                      all_goals first | (go_simp; done) | (go_simp; rfl)
                    case measure => simp [intOf] <;> omega
                  · have hd : decide (g2.cc < g.cc) = false := decide_eq_false hbt
                    rw [hd] at HBE
                    clear hd
                    have hkk := HK.out (by omega)
                    clear HK HS
                    go_wp2_with fail
                    refine (HBE.out _).mono ?_
                    rintro e w2 ⟨rfl, hb2⟩
                    obtain ⟨hc2, hf2⟩ := bcell hb2
                    have hz2 := hb2.size
                    try simp at hz2
                    have z2_0 : w.heap.size < w2.heap.size := by omega
                    have z2_1 : w1.heap.size < w2.heap.size := by omega
                    go_wp2
                    go_roundw
                    case rel =>
                      refine ⟨3, g, b, by omega, by go_num, rfl, hst, ?_, hlt, fun hb => by
                        obtain ⟨e, p, q, s⟩ := hno hb
                        refine ⟨e, p, q, ?_⟩
                        rw [← e]
                        rw [← e] at s
                        unfold PN2 at *
                        obtain ⟨q0, q1, q2, q3⟩ := s
                        exact ⟨fun _ => q0 (by omega), fun _ => q1 (by omega), fun _ => hkk, fun hh => absurd hh (by omega)⟩⟩
                      constructor
                      · repeat (first | exact Below.refl _ _ | assumption | exact Below.alloc (Below.refl _ _) (Nat.le_refl _) _ | refine Below.setCell ?_ (by first | (simp; done) | (simp; omega) | omega) _ | refine below_drewN ?_ _ | refine Below.alloc ?_ (by first | (simp; done) | (simp; omega) | omega) _ | refine Below.trans ?_ (Below.mono (by assumption) (by first | (simp; done) | (simp; omega) | omega)))
                      · first | (simp; done) | (simp; omega) | omega
                      · omega
                      · intro o; go_simp
                      all_goals first | (go_simp; done) | (go_simp; rfl)
                    case measure => simp [intOf] <;> omega
                · try simp only [show ((0 : Nat) : Int) = 0 from rfl, show ((1 : Nat) : Int) = 1 from rfl, show ((2 : Nat) : Int) = 2 from rfl, show ((3 : Nat) : Int) = 3 from rfl, show ((4 : Nat) : Int) = 4 from rfl]
                  obtain ⟨BE, AD, AE, hk, hs⟩ := stepS_23 hst
                  obtain ⟨g1, eg1⟩ : ∃ q, q = ad20 (1) g := ⟨_, rfl⟩
                  rw [← eg1] at BE AD AE hk hs
                  obtain ⟨g2, eg2⟩ : ∃ q, q = ad21 (1) g1 := ⟨_, rfl⟩
                  rw [← eg2] at BE AE hk hs
                  clear eg1 eg2
                  have HBE := Lib.hid BE; have HAD := Lib.hid AD; have HAE := Lib.hid AE; clear BE AD AE
                  have HK := Lib.hid hk; have HS := Lib.hid hs; clear hk hs
                  rcases Classical.em (g2.cc < g.cc) with hbt | hbt
                  · have hd : decide (g2.cc < g.cc) = true := decide_eq_true hbt
                    rw [hd] at HBE
                    clear hd
                    obtain ⟨hst1, htr⟩ := HS.out hbt
                    have hlt2 : tr3 g2 < tr3 g0 := by
                      cases b with
                      | true => have := hlt rfl; omega
                      | false => obtain ⟨e, _⟩ := hno rfl; rw [← e]; exact htr
                    clear HK
                    go_wp2_with fail
                    refine (HBE.out _).mono ?_
                    rintro e w2 ⟨rfl, hb2⟩
                    obtain ⟨hc2, hf2⟩ := bcell hb2
                    have hz2 := hb2.size
                    try simp at hz2
                    have z2_0 : w.heap.size < w2.heap.size := by omega
                    have z2_1 : w1.heap.size < w2.heap.size := by omega
                    go_wp2_with fail
                    refine (HAD.out _).mono ?_
                    rintro e w3 ⟨rfl, hb3⟩
                    obtain ⟨hc3, hf3⟩ := bcell hb3
                    have hz3 := hb3.size
                    try simp at hz3
                    have z3_0 : w.heap.size < w3.heap.size := by omega
                    have z3_1 : w1.heap.size < w3.heap.size := by omega
                    go_wp2_with fail
                    refine (HAE.out _).mono ?_
                    rintro e w4 ⟨rfl, hb4⟩
                    obtain ⟨hc4, hf4⟩ := bcell hb4
                    have hz4 := hb4.size
                    try simp at hz4
                    have z4_0 : w.heap.size < w4.heap.size := by omega
                    have z4_1 : w1.heap.size < w4.heap.size := by omega
                    go_wp2
                    go_roundw
                    case rel =>
                      refine ⟨4, g2, true, by omega, by go_num, rfl, hst1, ?_, fun _ => hlt2, fun hb => (by cases hb)⟩
                      constructor
                      · repeat (first | exact Below.refl _ _ | assumption | exact Below.alloc (Below.refl _ _) (Nat.le_refl _) _ | refine Below.setCell ?_ (by first | (simp; done) | (simp; omega) | omega) _ | refine below_drewN ?_ _ | refine Below.alloc ?_ (by first | (simp; done) | (simp; omega) | omega) _ | refine Below.trans ?_ (Below.mono (by assumption) (by first | (simp; done) | (simp; omega) | omega)))
                      · first | (simp; done) | (simp; omega) | omega
                      · omega
                      · intro o; go_simp
                      all_goals first | (go_simp; done) | (go_simp; rfl)
                    case measure => simp [intOf] <;> omega
                  · have hd : decide (g2.cc < g.cc) = false := decide_eq_false hbt
                    rw [hd] at HBE
                    clear hd
                    have hkk := HK.out (by omega)
                    clear HK HS
                    go_wp2_with fail
                    refine (HBE.out _).mono ?_
                    rintro e w2 ⟨rfl, hb2⟩
                    obtain ⟨hc2, hf2⟩ := bcell hb2
                    have hz2 := hb2.size
                    try simp at hz2
                    have z2_0 : w.heap.size < w2.heap.size := by omega
                    have z2_1 : w1.heap.size < w2.heap.size := by omega
                    go_wp2
                    go_roundw
                    case rel =>
                      refine ⟨4, g, b, by omega, by go_num, rfl, hst, ?_, hlt, fun hb => by
                        obtain ⟨e, p, q, s⟩ := hno hb
                        refine ⟨e, p, q, ?_⟩
                        rw [← e]
                        rw [← e] at s
                        unfold PN2 at *
                        obtain ⟨q0, q1, q2, q3⟩ := s
                        exact ⟨fun _ => q0 (by omega), fun _ => q1 (by omega), fun _ => q2 (by omega), fun _ => hkk⟩⟩
                      constructor
                      · repeat (first | exact Below.refl _ _ | assumption | exact Below.alloc (Below.refl _ _) (Nat.le_refl _) _ | refine Below.setCell ?_ (by first | (simp; done) | (simp; omega) | omega) _ | refine below_drewN ?_ _ | refine Below.alloc ?_ (by first | (simp; done) | (simp; omega) | omega) _ | refine Below.trans ?_ (Below.mono (by assumption) (by first | (simp; done) | (simp; omega) | omega)))
                      · first | (simp; done) | (simp; omega) | omega
                      · omega
                      · intro o; go_simp
                      all_goals first | (go_simp; done) | (go_simp; rfl)
                    case measure => simp [intOf] <;> omega
                · try simp only [show ((0 : Nat) : Int) = 0 from rfl, show ((1 : Nat) : Int) = 1 from rfl, show ((2 : Nat) : Int) = 2 from rfl, show ((3 : Nat) : Int) = 3 from rfl, show ((4 : Nat) : Int) = 4 from rfl]
                  go_wp2
                  go_roundw
                  case rel =>
                    refine ⟨3, g, b, by omega, by go_num, rfl, hst, ?_, hlt, fun hb => by
                      obtain ⟨e, p, q, s⟩ := hno hb
                      refine ⟨e, ?_⟩
                      unfold PI3 PJ2 PN2 at *
                      obtain ⟨p0, p1, p2⟩ := p
                      obtain ⟨q1, q2⟩ := q
                      obtain ⟨s0, s1, s2, s3⟩ := s
                      exact ⟨fun _ => p0 (by omega), fun _ => p1 (by omega), fun _ => ⟨q1 (by omega), q2 (by omega), s0 (by omega), s1 (by omega), s2 (by omega), s3 (by omega)⟩⟩⟩
                    constructor
                    · repeat (first | exact Below.refl _ _ | assumption | exact Below.alloc (Below.refl _ _) (Nat.le_refl _) _ | refine Below.setCell ?_ (by first | (simp; done) | (simp; omega) | omega) _ | refine below_drewN ?_ _ | refine Below.alloc ?_ (by first | (simp; done) | (simp; omega) | omega) _ | refine Below.trans ?_ (Below.mono (by assumption) (by first | (simp; done) | (simp; omega) | omega)))
                    · first | (simp; done) | (simp; omega) | omega
                    · omega
                    · intro o; go_simp
                    all_goals first | (go_simp; done) | (go_simp; rfl)
                  case measure => simp [intOf] <;> omega
        · try simp only [show ((0 : Nat) : Int) = 0 from rfl, show ((1 : Nat) : Int) = 1 from rfl, show ((2 : Nat) : Int) = 2 from rfl, show ((3 : Nat) : Int) = 3 from rfl, show ((4 : Nat) : Int) = 4 from rfl]
          go_wp2
          go_roundw
          case rel =>
            refine ⟨g, b, rfl, hst, ?_, fun hb => by
              obtain ⟨e, p⟩ := hno hb
              rw [e]; exact p⟩
            constructor
            · repeat (first | exact Below.refl _ _ | assumption | exact Below.alloc (Below.refl _ _) (Nat.le_refl _) _ | refine Below.setCell ?_ (by first | (simp; done) | (simp; omega) | omega) _ | refine below_drewN ?_ _ | refine Below.alloc ?_ (by first | (simp; done) | (simp; omega) | omega) _ | refine Below.trans ?_ (Below.mono (by assumption) (by first | (simp; done) | (simp; omega) | omega)))
            · first | (simp; done) | (simp; omega) | omega
            · omega
            · intro o; go_simp
            all_goals first | (go_simp; done) | (go_simp; rfl)
          case measure =>
            have e1 : trW wr w1.heap.size = tr3 g := by unfold trW cellI tr3; rw [c0, c4, c8]
            have t1 : 1 ≤ tr3 g := by have := hst.bd; unfold tr3; omega
            cases b with
            | true =>
              have h2 := hlt rfl
              simp [bN, ht0, e1]
              omega
            | false =>
              obtain ⟨e, _⟩ := hno rfl
              subst e
              simp [bN, ht0, e1]

end Go.Proofs.Ytdhlkhockpblhaa
