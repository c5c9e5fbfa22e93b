/-
  Metrics and matrices as structures; a step; obtuse.
-/
import Derived.Test.YtdhlkhockpblhaaRedI
import Derived.Test.YtdhlkhockpblhaaRedH
import Derived.Test.YtdhlkhockpblhaaRedE
import Derived.Test.YtdhlkhockpblhaaRedF
import Derived.Test.YtdhlkhockpblhaaRedG
namespace Go.Proofs.Ytdhlkhockpblhaa
open Go.RowKit
attribute [local irreducible] World.setCell

set_option linter.unusedSimpArgs false
set_option linter.unusedVariables false

@[ext] structure Met where
  aa : Int
  bb : Int
  cc : Int
  bc : Int
  ac : Int
  ab : Int
@[ext] structure Mt where
  p00 : Int
  p01 : Int
  p02 : Int
  p10 : Int
  p11 : Int
  p12 : Int
  p20 : Int
  p21 : Int
  p22 : Int
def pick (m : Met) : Nat :=
  if 0 < wrap64 (m.bc) then 0 else if 0 < wrap64 (m.ac) then 1 else if 0 < wrap64 (m.ab) then 2 else if 0 < wrap64 (-m.aa - m.ab - m.ac) then 3 else if 0 < wrap64 (-m.bb - m.ab - m.bc) then 4 else if 0 < wrap64 (-m.cc - m.ac - m.bc) then 5 else 6
def nx (k : Nat) (m : Met) : Met :=
  match k with
  | 0 => ⟨wrap64 (m.aa + m.bb + 2 * m.ab), wrap64 (m.bb), wrap64 (m.cc), wrap64 ((-1) * m.bc), wrap64 (m.bc + m.ac), wrap64 ((-1) * m.bb + (-1) * m.ab)⟩
  | 1 => ⟨wrap64 (m.aa), wrap64 (m.aa + m.bb + 2 * m.ab), wrap64 (m.cc), wrap64 (m.bc + m.ac), wrap64 ((-1) * m.ac), wrap64 ((-1) * m.aa + (-1) * m.ab)⟩
  | 2 => ⟨wrap64 (m.aa), wrap64 (m.bb), wrap64 (m.aa + m.cc + 2 * m.ac), wrap64 (m.bc + m.ab), wrap64 ((-1) * m.aa + (-1) * m.ac), wrap64 ((-1) * m.ab)⟩
  | 3 => ⟨wrap64 (m.aa), wrap64 (m.aa + m.bb + 2 * m.ab), wrap64 (m.aa + m.cc + 2 * m.ac), wrap64 (m.aa + m.bc + m.ac + m.ab), wrap64 ((-1) * m.aa + (-1) * m.ac), wrap64 ((-1) * m.aa + (-1) * m.ab)⟩
  | 4 => ⟨wrap64 (m.aa + m.bb + 2 * m.ab), wrap64 (m.bb), wrap64 (m.bb + m.cc + 2 * m.bc), wrap64 ((-1) * m.bb + (-1) * m.bc), wrap64 (m.bb + m.bc + m.ac + m.ab), wrap64 ((-1) * m.bb + (-1) * m.ab)⟩
  | 5 => ⟨wrap64 (m.aa + m.cc + 2 * m.ac), wrap64 (m.bb + m.cc + 2 * m.bc), wrap64 (m.cc), wrap64 ((-1) * m.cc + (-1) * m.bc), wrap64 ((-1) * m.cc + (-1) * m.ac), wrap64 (m.cc + m.bc + m.ac + m.ab)⟩
  | _ => ⟨wrap64 (m.aa), wrap64 (m.bb), wrap64 (m.cc), wrap64 (m.bc), wrap64 (m.ac), wrap64 (m.ab)⟩
def qk (k : Nat) : Mt :=
  match k with
  | 0 => ⟨1, 0, 0, 1, -1, 0, 0, 0, 1⟩
  | 1 => ⟨-1, 1, 0, 0, 1, 0, 0, 0, 1⟩
  | 2 => ⟨-1, 0, 1, 0, 1, 0, 0, 0, 1⟩
  | 3 => ⟨-1, 1, 1, 0, 1, 0, 0, 0, 1⟩
  | 4 => ⟨1, 0, 0, 1, -1, 1, 0, 0, 1⟩
  | 5 => ⟨1, 0, 0, 0, 1, 0, 1, 1, -1⟩
  | _ => ⟨1, 0, 0, 0, 1, 0, 0, 0, 1⟩
def mulW (a b : Mt) : Mt := ⟨wrap64 (a.p00 * b.p00 + a.p01 * b.p10 + a.p02 * b.p20), wrap64 (a.p00 * b.p01 + a.p01 * b.p11 + a.p02 * b.p21), wrap64 (a.p00 * b.p02 + a.p01 * b.p12 + a.p02 * b.p22), wrap64 (a.p10 * b.p00 + a.p11 * b.p10 + a.p12 * b.p20), wrap64 (a.p10 * b.p01 + a.p11 * b.p11 + a.p12 * b.p21), wrap64 (a.p10 * b.p02 + a.p11 * b.p12 + a.p12 * b.p22), wrap64 (a.p20 * b.p00 + a.p21 * b.p10 + a.p22 * b.p20), wrap64 (a.p20 * b.p01 + a.p21 * b.p11 + a.p22 * b.p21), wrap64 (a.p20 * b.p02 + a.p21 * b.p12 + a.p22 * b.p22)⟩
def one : Mt := ⟨1, 0, 0, 0, 1, 0, 0, 0, 1⟩
def chk (m : Met) : Int := checkC m.aa m.bb m.cc m.bc m.ac m.ab
def it (m : Met) : Nat → Met
  | 0 => m
  | k + 1 => nx (pick (it m k)) (it m k)
def al (m : Met) : Nat → Mt
  | 0 => one
  | k + 1 => mulW (al m k) (qk (pick (it m k)))
def resS (m : Met) : Value := if chk m = 0 then .tuple #[.agg #[.int .i64 (nx (pick m) m).aa, .int .i64 (nx (pick m) m).bb, .int .i64 (nx (pick m) m).cc, .int .i64 (nx (pick m) m).bc, .int .i64 (nx (pick m) m).ac, .int .i64 (nx (pick m) m).ab], .agg #[.int .i64 (qk (pick m)).p00, .int .i64 (qk (pick m)).p01, .int .i64 (qk (pick m)).p02, .int .i64 (qk (pick m)).p10, .int .i64 (qk (pick m)).p11, .int .i64 (qk (pick m)).p12, .int .i64 (qk (pick m)).p20, .int .i64 (qk (pick m)).p21, .int .i64 (qk (pick m)).p22], .bool (decide (pick m < 6)), .int .i64 0] else .tuple #[.agg #[.int .i64 0, .int .i64 0, .int .i64 0, .int .i64 0, .int .i64 0, .int .i64 0], .agg #[.int .i64 0, .int .i64 0, .int .i64 0, .int .i64 0, .int .i64 0, .int .i64 0, .int .i64 0, .int .i64 0, .int .i64 0], .bool false, .int .i64 (chk m)]
theorem step_all (m : Met) (w : World) : Calls Try.prog 38 #[.agg #[.int .i64 m.aa, .int .i64 m.bb, .int .i64 m.cc, .int .i64 m.bc, .int .i64 m.ac, .int .i64 m.ab]] w fun e w' => e = .returned (.tuple #[.agg #[.int .i64 (qk (pick m)).p00, .int .i64 (qk (pick m)).p01, .int .i64 (qk (pick m)).p02, .int .i64 (qk (pick m)).p10, .int .i64 (qk (pick m)).p11, .int .i64 (qk (pick m)).p12, .int .i64 (qk (pick m)).p20, .int .i64 (qk (pick m)).p21, .int .i64 (qk (pick m)).p22], .bool (decide (pick m < 6))]) ∧ Below w.heap.size w w' := by
  obtain ⟨aa, bb, cc, bc, ac, ab⟩ := m
  unfold pick
  dsimp only
  by_cases h0 : 0 < wrap64 (bc)
  · rw [if_pos h0]
    exact step_0 aa bb cc bc ac ab w h0
  · rw [if_neg h0]
    by_cases h1 : 0 < wrap64 (ac)
    · rw [if_pos h1]
      exact step_1 aa bb cc bc ac ab w (Int.not_lt.1 h0) h1
    · rw [if_neg h1]
      by_cases h2 : 0 < wrap64 (ab)
      · rw [if_pos h2]
        exact step_2 aa bb cc bc ac ab w (Int.not_lt.1 h0) (Int.not_lt.1 h1) h2
      · rw [if_neg h2]
        by_cases h3 : 0 < wrap64 (-aa - ab - ac)
        · rw [if_pos h3]
          exact step_3 aa bb cc bc ac ab w (Int.not_lt.1 h0) (Int.not_lt.1 h1) (Int.not_lt.1 h2) h3
        · rw [if_neg h3]
          by_cases h4 : 0 < wrap64 (-bb - ab - bc)
          · rw [if_pos h4]
            exact step_4 aa bb cc bc ac ab w (Int.not_lt.1 h0) (Int.not_lt.1 h1) (Int.not_lt.1 h2) (Int.not_lt.1 h3) h4
          · rw [if_neg h4]
            by_cases h5 : 0 < wrap64 (-cc - ac - bc)
            · rw [if_pos h5]
              exact step_5 aa bb cc bc ac ab w (Int.not_lt.1 h0) (Int.not_lt.1 h1) (Int.not_lt.1 h2) (Int.not_lt.1 h3) (Int.not_lt.1 h4) h5
            · rw [if_neg h5]
              exact step_6 aa bb cc bc ac ab w (Int.not_lt.1 h0) (Int.not_lt.1 h1) (Int.not_lt.1 h2) (Int.not_lt.1 h3) (Int.not_lt.1 h4) (Int.not_lt.1 h5)
theorem turn_all (m : Met) (k : Nat) (hk : k ≤ 6) (w : World) : Calls Try.prog 39 #[.agg #[.int .i64 m.aa, .int .i64 m.bb, .int .i64 m.cc, .int .i64 m.bc, .int .i64 m.ac, .int .i64 m.ab], .agg #[.int .i64 (qk k).p00, .int .i64 (qk k).p01, .int .i64 (qk k).p02, .int .i64 (qk k).p10, .int .i64 (qk k).p11, .int .i64 (qk k).p12, .int .i64 (qk k).p20, .int .i64 (qk k).p21, .int .i64 (qk k).p22]] w fun e w' => e = .returned (.agg #[.int .i64 (nx k m).aa, .int .i64 (nx k m).bb, .int .i64 (nx k m).cc, .int .i64 (nx k m).bc, .int .i64 (nx k m).ac, .int .i64 (nx k m).ab]) ∧ Below w.heap.size w w' := by
  rcases (by omega : k = 0 ∨ k = 1 ∨ k = 2 ∨ k = 3 ∨ k = 4 ∨ k = 5 ∨ k = 6) with rfl | rfl | rfl | rfl | rfl | rfl | rfl
  · exact to_v (tm_0 _ _ _ _ _ _) (turned_any _ _ _ _ _ _ _ _ _ _ _ _ _ _ _ w)
  · exact to_v (tm_1 _ _ _ _ _ _) (turned_any _ _ _ _ _ _ _ _ _ _ _ _ _ _ _ w)
  · exact to_v (tm_2 _ _ _ _ _ _) (turned_any _ _ _ _ _ _ _ _ _ _ _ _ _ _ _ w)
  · exact to_v (tm_3 _ _ _ _ _ _) (turned_any _ _ _ _ _ _ _ _ _ _ _ _ _ _ _ w)
  · exact to_v (tm_4 _ _ _ _ _ _) (turned_any _ _ _ _ _ _ _ _ _ _ _ _ _ _ _ w)
  · exact to_v (tm_5 _ _ _ _ _ _) (turned_any _ _ _ _ _ _ _ _ _ _ _ _ _ _ _ w)
  · exact to_v (tm_6 _ _ _ _ _ _) (turned_any _ _ _ _ _ _ _ _ _ _ _ _ _ _ _ w)
theorem times_M (p q : Mt) (w : World) : Calls Try.prog 72 #[.agg #[.int .i64 p.p00, .int .i64 p.p01, .int .i64 p.p02, .int .i64 p.p10, .int .i64 p.p11, .int .i64 p.p12, .int .i64 p.p20, .int .i64 p.p21, .int .i64 p.p22], .agg #[.int .i64 q.p00, .int .i64 q.p01, .int .i64 q.p02, .int .i64 q.p10, .int .i64 q.p11, .int .i64 q.p12, .int .i64 q.p20, .int .i64 q.p21, .int .i64 q.p22]] w fun e w' => e = .returned (.agg #[.int .i64 (mulW p q).p00, .int .i64 (mulW p q).p01, .int .i64 (mulW p q).p02, .int .i64 (mulW p q).p10, .int .i64 (mulW p q).p11, .int .i64 (mulW p q).p12, .int .i64 (mulW p q).p20, .int .i64 (mulW p q).p21, .int .i64 (mulW p q).p22]) ∧ Below w.heap.size w w' := times_any _ _ _ _ _ _ _ _ _ _ _ _ _ _ _ _ _ _ w
theorem pick_le (m : Met) : pick m ≤ 6 := by unfold pick; repeat (first | omega | split)
theorem Step_all (m : Met) (w : World) : Calls Try.prog 10 #[.agg #[.int .i64 m.aa, .int .i64 m.bb, .int .i64 m.cc, .int .i64 m.bc, .int .i64 m.ac, .int .i64 m.ab]] w fun e w' => e = .returned (resS m) ∧ Below w.heap.size w w' := by
  unfold resS
  by_cases hC : chk m = 0
  · rw [if_pos hC]
    revert hC
    obtain ⟨aa, bb, cc, bc, ac, ab⟩ := m
    unfold pick
    dsimp only
    by_cases h0 : 0 < wrap64 (bc)
    · rw [if_pos h0]
      intro hC
      exact Step_0 aa bb cc bc ac ab w hC h0
    · rw [if_neg h0]
      by_cases h1 : 0 < wrap64 (ac)
      · rw [if_pos h1]
        intro hC
        exact Step_1 aa bb cc bc ac ab w hC (Int.not_lt.1 h0) h1
      · rw [if_neg h1]
        by_cases h2 : 0 < wrap64 (ab)
        · rw [if_pos h2]
          intro hC
          exact Step_2 aa bb cc bc ac ab w hC (Int.not_lt.1 h0) (Int.not_lt.1 h1) h2
        · rw [if_neg h2]
          by_cases h3 : 0 < wrap64 (-aa - ab - ac)
          · rw [if_pos h3]
            intro hC
            exact Step_3 aa bb cc bc ac ab w hC (Int.not_lt.1 h0) (Int.not_lt.1 h1) (Int.not_lt.1 h2) h3
          · rw [if_neg h3]
            by_cases h4 : 0 < wrap64 (-bb - ab - bc)
            · rw [if_pos h4]
              intro hC
              exact Step_4 aa bb cc bc ac ab w hC (Int.not_lt.1 h0) (Int.not_lt.1 h1) (Int.not_lt.1 h2) (Int.not_lt.1 h3) h4
            · rw [if_neg h4]
              by_cases h5 : 0 < wrap64 (-cc - ac - bc)
              · rw [if_pos h5]
                intro hC
                exact Step_5 aa bb cc bc ac ab w hC (Int.not_lt.1 h0) (Int.not_lt.1 h1) (Int.not_lt.1 h2) (Int.not_lt.1 h3) (Int.not_lt.1 h4) h5
              · rw [if_neg h5]
                intro hC
                exact Step_6 aa bb cc bc ac ab w hC (Int.not_lt.1 h0) (Int.not_lt.1 h1) (Int.not_lt.1 h2) (Int.not_lt.1 h3) (Int.not_lt.1 h4) (Int.not_lt.1 h5)
  · rw [if_neg hC]
    exact Step_bad _ _ _ _ _ _ _ w rfl hC
structure OI (W0 : World) (B ba : Nat) (m : Met) (p : Mt) (wr : World) : Prop where
  below : Below B W0 wr
  za : ba < wr.heap.size
  m0 : wr.cell? ⟨B, 0, none⟩ = some (.int .i64 m.aa)
  r0 : wr.cell? ⟨B + 1, 0, none⟩ = some (.int .i64 0)
  m1 : wr.cell? ⟨B, 1, none⟩ = some (.int .i64 m.bb)
  r1 : wr.cell? ⟨B + 1, 1, none⟩ = some (.int .i64 0)
  m2 : wr.cell? ⟨B, 2, none⟩ = some (.int .i64 m.cc)
  r2 : wr.cell? ⟨B + 1, 2, none⟩ = some (.int .i64 0)
  m3 : wr.cell? ⟨B, 3, none⟩ = some (.int .i64 m.bc)
  r3 : wr.cell? ⟨B + 1, 3, none⟩ = some (.int .i64 0)
  m4 : wr.cell? ⟨B, 4, none⟩ = some (.int .i64 m.ac)
  r4 : wr.cell? ⟨B + 1, 4, none⟩ = some (.int .i64 0)
  m5 : wr.cell? ⟨B, 5, none⟩ = some (.int .i64 m.ab)
  r5 : wr.cell? ⟨B + 1, 5, none⟩ = some (.int .i64 0)
  p0 : wr.cell? ⟨ba, 0, none⟩ = some (.int .i64 p.p00)
  q0 : wr.cell? ⟨B + 1 + 1, 0, none⟩ = some (.int .i64 0)
  p1 : wr.cell? ⟨ba, 1, none⟩ = some (.int .i64 p.p01)
  q1 : wr.cell? ⟨B + 1 + 1, 1, none⟩ = some (.int .i64 0)
  p2 : wr.cell? ⟨ba, 2, none⟩ = some (.int .i64 p.p02)
  q2 : wr.cell? ⟨B + 1 + 1, 2, none⟩ = some (.int .i64 0)
  p3 : wr.cell? ⟨ba, 3, none⟩ = some (.int .i64 p.p10)
  q3 : wr.cell? ⟨B + 1 + 1, 3, none⟩ = some (.int .i64 0)
  p4 : wr.cell? ⟨ba, 4, none⟩ = some (.int .i64 p.p11)
  q4 : wr.cell? ⟨B + 1 + 1, 4, none⟩ = some (.int .i64 0)
  p5 : wr.cell? ⟨ba, 5, none⟩ = some (.int .i64 p.p12)
  q5 : wr.cell? ⟨B + 1 + 1, 5, none⟩ = some (.int .i64 0)
  p6 : wr.cell? ⟨ba, 6, none⟩ = some (.int .i64 p.p20)
  q6 : wr.cell? ⟨B + 1 + 1, 6, none⟩ = some (.int .i64 0)
  p7 : wr.cell? ⟨ba, 7, none⟩ = some (.int .i64 p.p21)
  q7 : wr.cell? ⟨B + 1 + 1, 7, none⟩ = some (.int .i64 0)
  p8 : wr.cell? ⟨ba, 8, none⟩ = some (.int .i64 p.p22)
  q8 : wr.cell? ⟨B + 1 + 1, 8, none⟩ = some (.int .i64 0)
  f0 : ∀ o, wr.frozen? ⟨B, o, none⟩ = false
  f1 : ∀ o, wr.frozen? ⟨B + 1, o, none⟩ = false
  f2 : ∀ o, wr.frozen? ⟨B + 1 + 1, o, none⟩ = false
  f3 : ∀ o, wr.frozen? ⟨ba, o, none⟩ = false
set_option maxHeartbeats 3200000 in
set_option maxRecDepth 100000 in
theorem obtuse_run (m : Met) (N : Nat) (hNb : N < 4611686018427387904) (hN : pick (it m N) = 6) (hl : ∀ k, k < N → pick (it m k) < 6) (w : World) :
    Calls Try.prog 44 #[.agg #[.int .i64 m.aa, .int .i64 m.bb, .int .i64 m.cc, .int .i64 m.bc, .int .i64 m.ac, .int .i64 m.ab]] w fun e w' => e = .returned (.tuple #[.agg #[.int .i64 (it m N).aa, .int .i64 (it m N).bb, .int .i64 (it m N).cc, .int .i64 (it m N).bc, .int .i64 (it m N).ac, .int .i64 (it m N).ab], .agg #[.int .i64 (al m N).p00, .int .i64 (al m N).p01, .int .i64 (al m N).p02, .int .i64 (al m N).p10, .int .i64 (al m N).p11, .int .i64 (al m N).p12, .int .i64 (al m N).p20, .int .i64 (al m N).p21, .int .i64 (al m N).p22], .int .i64 N]) ∧ Below w.heap.size w w' := by
  go_enter Try.func44, Try.ntmps44
  go_wp2_with fail
  refine (identity_any _).mono ?_
  rintro e w1 ⟨rfl, hb1⟩
  obtain ⟨hc1, hf1⟩ := bcell hb1
  have hz1 := hb1.size
  try simp at hz1
  have z1_0 : w.heap.size < w1.heap.size := by omega
  have z1_1 : w.heap.size + 1 < w1.heap.size := by omega
  have z1_2 : w.heap.size + 1 + 1 < w1.heap.size := by omega
  go_wp2
  go_loopw [6] (fun i wr => ∃ k : Nat, k ≤ N ∧ i = .int .i64 k ∧ OI w w.heap.size w1.heap.size (it m k) (al m k) wr) (fun i _ => N - (intOf i).toNat)
  case atStart =>
    refine ⟨0, by omega, rfl, ?_⟩
    constructor
    · repeat (first | exact Below.refl _ _ | assumption | exact Below.alloc (Below.refl _ _) (Nat.le_refl _) _ | refine Below.setCell ?_ (by first | (simp; done) | (simp; omega) | omega) _ | refine below_drewN ?_ _ | refine Below.alloc ?_ (by first | (simp; done) | (simp; omega) | omega) _ | refine Below.trans ?_ (Below.mono (by assumption) (by first | (simp; done) | (simp; omega) | omega)))
    · first | (simp; done) | (simp; omega) | omega
    all_goals first | (intro o; go_simp; done) | (go_simp; done) | (go_simp; rfl)
  case round =>
    obtain ⟨k, hk, rfl, hinv⟩ := hrel
    obtain ⟨mk, emk⟩ : ∃ x, x = it m k := ⟨_, rfl⟩
    obtain ⟨pk, epk⟩ : ∃ x, x = al m k := ⟨_, rfl⟩
    rw [← emk, ← epk] at hinv
    obtain ⟨hbl, za, c0, r0, c1, r1, c2, r2, c3, r3, c4, r4, c5, r5, d0, q0, d1, q1, d2, q2, d3, q3, d4, q4, d5, q5, d6, q6, d7, q7, d8, q8, f0, f1, f2, f3⟩ := hinv
    have zb := hbl.size
    have EM := Lib.hid emk; have EP := Lib.hid epk; clear emk epk
    have zw0 : w.heap.size < wr.heap.size := by omega
    have zw1 : w.heap.size + 1 < wr.heap.size := by omega
    have zw2 : w.heap.size + 1 + 1 < wr.heap.size := by omega
    have zw3 : w1.heap.size < wr.heap.size := by omega
    rcases Nat.lt_or_ge k N with hkN | hkN
    · have hp : pick mk < 6 := by rw [EM.out]; exact hl k hkN
      have hd : decide (pick mk < 6) = true := decide_eq_true hp
      go_wp2_with fail
      refine (step_all mk _).mono ?_
      rintro e ws ⟨rfl, hbs⟩
      obtain ⟨hcs, hfs⟩ := bcell hbs
      have hzs := hbs.size
      try simp at hzs
      have zs0 : w.heap.size < ws.heap.size := by omega
      have zs1 : w.heap.size + 1 < ws.heap.size := by omega
      have zs2 : w.heap.size + 1 + 1 < ws.heap.size := by omega
      have zs3 : w1.heap.size < ws.heap.size := by omega
      obtain ⟨q, eq⟩ : ∃ x, x = qk (pick mk) := ⟨_, rfl⟩
      rw [hd]
      have tm := fun w => turn_all mk (pick mk) (by omega) w
      rw [← eq] at tm ⊢
      obtain ⟨mn, emn⟩ : ∃ x, x = nx (pick mk) mk := ⟨_, rfl⟩
      rw [← emn] at tm
      have TM := Lib.hid tm; clear tm
      have EQ := Lib.hid eq; have EN := Lib.hid emn; clear eq emn
      obtain ⟨pn, epn⟩ : ∃ x, x = mulW pk q := ⟨_, rfl⟩
      have tp := fun w => times_M pk q w
      rw [← epn] at tp
      have TP := Lib.hid tp; have EPN := Lib.hid epn; clear tp epn
      go_wp2
      refine region_head 6 (by kernel_rfl) (by kernel_rfl) ?_
      simp only [List.take_succ_cons, List.take_zero, List.drop_succ_cons, List.drop_zero]
      repeat (go_big_quiet_step (first | (go_at_call 39; exact held_of _ (Nat.le_refl _) (TM.out _)) | (go_at_call 72; exact held_of _ (Nat.le_refl _) (TP.out _))))
      refine wpQuiet_nil ?_
      rintro x1 ⟨⟨w0, hbx1⟩, rfl⟩
      obtain ⟨hcx1, hfx1⟩ := bcell hbx1
      have hzx1 := hbx1.size
      try simp at hzx1
      have zx1_0 : w.heap.size < x1.heap.size := by omega
      have zx1_1 : w.heap.size + 1 < x1.heap.size := by omega
      have zx1_2 : w.heap.size + 1 + 1 < x1.heap.size := by omega
      have zx1_3 : w1.heap.size < x1.heap.size := by omega
      have zx1_4 : ws.heap.size < x1.heap.size := by omega
      go_wp2
      go_roundw
      case rel =>
        refine ⟨k + 1, by omega, by go_num, ?_⟩
        rw [show it m (k + 1) = mn from by rw [EN.out, EM.out]; rfl, show al m (k + 1) = pn from by rw [EPN.out, EQ.out, EP.out, EM.out]; rfl]
        constructor
        · repeat (first | exact Below.refl _ _ | assumption | exact Below.alloc (Below.refl _ _) (Nat.le_refl _) _ | refine Below.setCell ?_ (by first | (simp; done) | (simp; omega) | omega) _ | refine below_drewN ?_ _ | refine Below.alloc ?_ (by first | (simp; done) | (simp; omega) | omega) _ | refine Below.trans ?_ (Below.mono (by assumption) (by first | (simp; done) | (simp; omega) | omega)))
        · first | (simp; done) | (simp; omega) | omega
        all_goals first | (intro o; go_simp; done) | (go_simp; done)
      case measure => simp [intOf]; omega
    · obtain rfl : k = N := by omega
      have hp : pick mk = 6 := by rw [EM.out]; exact hN
      have hd : decide (pick mk < 6) = false := by rw [hp]; rfl
      go_wp2_with fail
      refine (step_all mk _).mono ?_
      rintro e ws ⟨rfl, hbs⟩
      obtain ⟨hcs, hfs⟩ := bcell hbs
      have hzs := hbs.size
      try simp at hzs
      have zs0 : w.heap.size < ws.heap.size := by omega
      have zs1 : w.heap.size + 1 < ws.heap.size := by omega
      have zs2 : w.heap.size + 1 + 1 < ws.heap.size := by omega
      have zs3 : w1.heap.size < ws.heap.size := by omega
      obtain ⟨q, eq⟩ : ∃ x, x = qk (pick mk) := ⟨_, rfl⟩
      rw [hd, ← eq]
      clear hp hd eq
      go_wp2
      go_region
      all_goals go_wp2
      all_goals refine bodyPost_ret (v := .tuple #[.agg #[.int .i64 mk.aa, .int .i64 mk.bb, .int .i64 mk.cc, .int .i64 mk.bc, .int .i64 mk.ac, .int .i64 mk.ab], .agg #[.int .i64 pk.p00, .int .i64 pk.p01, .int .i64 pk.p02, .int .i64 pk.p10, .int .i64 pk.p11, .int .i64 pk.p12, .int .i64 pk.p20, .int .i64 pk.p21, .int .i64 pk.p22], .int .i64 k]) (by simp [results, Try.results44, go_sem, wrap_add_l, wrap_add_r, wrap_sub_l, wrap_sub_r, wrap_mul_l, wrap_mul_r, wrap_neg, wrap_wrap, wrap3, *]) rfl ⟨(by rw [← EM.out, ← EP.out]), ?_⟩
      all_goals (repeat (first | exact Below.refl _ _ | assumption | exact Below.alloc (Below.refl _ _) (Nat.le_refl _) _ | refine Below.setCell ?_ (by first | (simp; done) | (simp; omega) | omega) _ | refine below_drewN ?_ _ | refine Below.alloc ?_ (by first | (simp; done) | (simp; omega) | omega) _ | refine Below.trans ?_ (Below.mono (by assumption) (by first | (simp; done) | (simp; omega) | omega))))

end Go.Proofs.Ytdhlkhockpblhaa
