/-
  DocShortest: whether an edge is shorter.
-/
import Derived.Test.YtdhlkhockpblhaaRedK2
namespace Go.Proofs.Ytdhlkhockpblhaa
open Go.RowKit
attribute [local irreducible] World.setCell

set_option linter.unusedSimpArgs false
set_option linter.unusedVariables false

set_option maxHeartbeats 1600000 in
set_option maxRecDepth 100000 in
theorem better_011 (m : Met) (x y : Int) (w : World) :
    Calls Try.prog 49 #[.agg #[.int .i64 m.aa, .int .i64 m.ab, .int .i64 m.ac, .int .i64 m.ab, .int .i64 m.bb, .int .i64 m.bc, .int .i64 m.ac, .int .i64 m.bc, .int .i64 m.cc], .int .i64 0, .int .i64 1, .int .i64 x, .int .i64 1, .int .i64 y] w fun e w' => e = .returned (.bool (decide ((aw01 y (aw01 x m)).aa < m.aa))) ∧ Below w.heap.size w w' := by
  have A1 := fun w => added_01 m x w
  obtain ⟨m1, e1⟩ : ∃ q, q = aw01 x m := ⟨_, rfl⟩
  rw [← e1] at A1
  have A2 := fun w => added_01 m1 y w
  obtain ⟨m2, e2⟩ : ∃ q, q = aw01 y m1 := ⟨_, rfl⟩
  rw [← e2] at A2
  have H1 := Lib.hid A1; have H2 := Lib.hid A2; have E1 := Lib.hid e1; have E2 := Lib.hid e2; clear A1 A2 e1 e2
  go_enter Try.func49, Try.ntmps49
  go_wp2_with fail
  refine (H1.out _).mono ?_
  rintro e w1 ⟨rfl, hb1⟩
  obtain ⟨hc1, hf1⟩ := bcell hb1
  have hz1 := hb1.size
  try simp at hz1
  have z1_0 : w.heap.size < w1.heap.size := by omega
  go_wp2_with fail
  refine (H2.out _).mono ?_
  rintro e w2 ⟨rfl, hb2⟩
  obtain ⟨hc2, hf2⟩ := bcell hb2
  have hz2 := hb2.size
  try simp at hz2
  have z2_0 : w.heap.size < w2.heap.size := by omega
  go_wp2
  go_quiet (fail)
  go_wp2
  go_ret
  refine ⟨ret_bool (by rw [← E1.out, ← E2.out]), ?_⟩
  repeat (first | exact Below.refl _ _ | assumption | exact Below.alloc (Below.refl _ _) (Nat.le_refl _) _ | refine Below.setCell ?_ (by first | (simp; done) | (simp; omega) | omega) _ | refine below_drewN ?_ _ | refine Below.alloc ?_ (by first | (simp; done) | (simp; omega) | omega) _ | refine Below.trans ?_ (Below.mono (by assumption) (by first | (simp; done) | (simp; omega) | omega)))

set_option maxHeartbeats 1600000 in
set_option maxRecDepth 100000 in
theorem better_022 (m : Met) (x y : Int) (w : World) :
    Calls Try.prog 49 #[.agg #[.int .i64 m.aa, .int .i64 m.ab, .int .i64 m.ac, .int .i64 m.ab, .int .i64 m.bb, .int .i64 m.bc, .int .i64 m.ac, .int .i64 m.bc, .int .i64 m.cc], .int .i64 0, .int .i64 2, .int .i64 x, .int .i64 2, .int .i64 y] w fun e w' => e = .returned (.bool (decide ((aw02 y (aw02 x m)).aa < m.aa))) ∧ Below w.heap.size w w' := by
  have A1 := fun w => added_02 m x w
  obtain ⟨m1, e1⟩ : ∃ q, q = aw02 x m := ⟨_, rfl⟩
  rw [← e1] at A1
  have A2 := fun w => added_02 m1 y w
  obtain ⟨m2, e2⟩ : ∃ q, q = aw02 y m1 := ⟨_, rfl⟩
  rw [← e2] at A2
  have H1 := Lib.hid A1; have H2 := Lib.hid A2; have E1 := Lib.hid e1; have E2 := Lib.hid e2; clear A1 A2 e1 e2
  go_enter Try.func49, Try.ntmps49
  go_wp2_with fail
  refine (H1.out _).mono ?_
  rintro e w1 ⟨rfl, hb1⟩
  obtain ⟨hc1, hf1⟩ := bcell hb1
  have hz1 := hb1.size
  try simp at hz1
  have z1_0 : w.heap.size < w1.heap.size := by omega
  go_wp2_with fail
  refine (H2.out _).mono ?_
  rintro e w2 ⟨rfl, hb2⟩
  obtain ⟨hc2, hf2⟩ := bcell hb2
  have hz2 := hb2.size
  try simp at hz2
  have z2_0 : w.heap.size < w2.heap.size := by omega
  go_wp2
  go_quiet (fail)
  go_wp2
  go_ret
  refine ⟨ret_bool (by rw [← E1.out, ← E2.out]), ?_⟩
  repeat (first | exact Below.refl _ _ | assumption | exact Below.alloc (Below.refl _ _) (Nat.le_refl _) _ | refine Below.setCell ?_ (by first | (simp; done) | (simp; omega) | omega) _ | refine below_drewN ?_ _ | refine Below.alloc ?_ (by first | (simp; done) | (simp; omega) | omega) _ | refine Below.trans ?_ (Below.mono (by assumption) (by first | (simp; done) | (simp; omega) | omega)))

set_option maxHeartbeats 1600000 in
set_option maxRecDepth 100000 in
theorem better_100 (m : Met) (x y : Int) (w : World) :
    Calls Try.prog 49 #[.agg #[.int .i64 m.aa, .int .i64 m.ab, .int .i64 m.ac, .int .i64 m.ab, .int .i64 m.bb, .int .i64 m.bc, .int .i64 m.ac, .int .i64 m.bc, .int .i64 m.cc], .int .i64 1, .int .i64 0, .int .i64 x, .int .i64 0, .int .i64 y] w fun e w' => e = .returned (.bool (decide ((aw10 y (aw10 x m)).bb < m.bb))) ∧ Below w.heap.size w w' := by
  have A1 := fun w => added_10 m x w
  obtain ⟨m1, e1⟩ : ∃ q, q = aw10 x m := ⟨_, rfl⟩
  rw [← e1] at A1
  have A2 := fun w => added_10 m1 y w
  obtain ⟨m2, e2⟩ : ∃ q, q = aw10 y m1 := ⟨_, rfl⟩
  rw [← e2] at A2
  have H1 := Lib.hid A1; have H2 := Lib.hid A2; have E1 := Lib.hid e1; have E2 := Lib.hid e2; clear A1 A2 e1 e2
  go_enter Try.func49, Try.ntmps49
  go_wp2_with fail
  refine (H1.out _).mono ?_
  rintro e w1 ⟨rfl, hb1⟩
  obtain ⟨hc1, hf1⟩ := bcell hb1
  have hz1 := hb1.size
  try simp at hz1
  have z1_0 : w.heap.size < w1.heap.size := by omega
  go_wp2_with fail
  refine (H2.out _).mono ?_
  rintro e w2 ⟨rfl, hb2⟩
  obtain ⟨hc2, hf2⟩ := bcell hb2
  have hz2 := hb2.size
  try simp at hz2
  have z2_0 : w.heap.size < w2.heap.size := by omega
  go_wp2
  go_quiet (fail)
  go_wp2
  go_ret
  refine ⟨ret_bool (by rw [← E1.out, ← E2.out]), ?_⟩
  repeat (first | exact Below.refl _ _ | assumption | exact Below.alloc (Below.refl _ _) (Nat.le_refl _) _ | refine Below.setCell ?_ (by first | (simp; done) | (simp; omega) | omega) _ | refine below_drewN ?_ _ | refine Below.alloc ?_ (by first | (simp; done) | (simp; omega) | omega) _ | refine Below.trans ?_ (Below.mono (by assumption) (by first | (simp; done) | (simp; omega) | omega)))

set_option maxHeartbeats 1600000 in
set_option maxRecDepth 100000 in
theorem better_122 (m : Met) (x y : Int) (w : World) :
    Calls Try.prog 49 #[.agg #[.int .i64 m.aa, .int .i64 m.ab, .int .i64 m.ac, .int .i64 m.ab, .int .i64 m.bb, .int .i64 m.bc, .int .i64 m.ac, .int .i64 m.bc, .int .i64 m.cc], .int .i64 1, .int .i64 2, .int .i64 x, .int .i64 2, .int .i64 y] w fun e w' => e = .returned (.bool (decide ((aw12 y (aw12 x m)).bb < m.bb))) ∧ Below w.heap.size w w' := by
  have A1 := fun w => added_12 m x w
  obtain ⟨m1, e1⟩ : ∃ q, q = aw12 x m := ⟨_, rfl⟩
  rw [← e1] at A1
  have A2 := fun w => added_12 m1 y w
  obtain ⟨m2, e2⟩ : ∃ q, q = aw12 y m1 := ⟨_, rfl⟩
  rw [← e2] at A2
  have H1 := Lib.hid A1; have H2 := Lib.hid A2; have E1 := Lib.hid e1; have E2 := Lib.hid e2; clear A1 A2 e1 e2
  go_enter Try.func49, Try.ntmps49
  go_wp2_with fail
  refine (H1.out _).mono ?_
  rintro e w1 ⟨rfl, hb1⟩
  obtain ⟨hc1, hf1⟩ := bcell hb1
  have hz1 := hb1.size
  try simp at hz1
  have z1_0 : w.heap.size < w1.heap.size := by omega
  go_wp2_with fail
  refine (H2.out _).mono ?_
  rintro e w2 ⟨rfl, hb2⟩
  obtain ⟨hc2, hf2⟩ := bcell hb2
  have hz2 := hb2.size
  try simp at hz2
  have z2_0 : w.heap.size < w2.heap.size := by omega
  go_wp2
  go_quiet (fail)
  go_wp2
  go_ret
  refine ⟨ret_bool (by rw [← E1.out, ← E2.out]), ?_⟩
  repeat (first | exact Below.refl _ _ | assumption | exact Below.alloc (Below.refl _ _) (Nat.le_refl _) _ | refine Below.setCell ?_ (by first | (simp; done) | (simp; omega) | omega) _ | refine below_drewN ?_ _ | refine Below.alloc ?_ (by first | (simp; done) | (simp; omega) | omega) _ | refine Below.trans ?_ (Below.mono (by assumption) (by first | (simp; done) | (simp; omega) | omega)))

set_option maxHeartbeats 1600000 in
set_option maxRecDepth 100000 in
theorem better_200 (m : Met) (x y : Int) (w : World) :
    Calls Try.prog 49 #[.agg #[.int .i64 m.aa, .int .i64 m.ab, .int .i64 m.ac, .int .i64 m.ab, .int .i64 m.bb, .int .i64 m.bc, .int .i64 m.ac, .int .i64 m.bc, .int .i64 m.cc], .int .i64 2, .int .i64 0, .int .i64 x, .int .i64 0, .int .i64 y] w fun e w' => e = .returned (.bool (decide ((aw20 y (aw20 x m)).cc < m.cc))) ∧ Below w.heap.size w w' := by
  have A1 := fun w => added_20 m x w
  obtain ⟨m1, e1⟩ : ∃ q, q = aw20 x m := ⟨_, rfl⟩
  rw [← e1] at A1
  have A2 := fun w => added_20 m1 y w
  obtain ⟨m2, e2⟩ : ∃ q, q = aw20 y m1 := ⟨_, rfl⟩
  rw [← e2] at A2
  have H1 := Lib.hid A1; have H2 := Lib.hid A2; have E1 := Lib.hid e1; have E2 := Lib.hid e2; clear A1 A2 e1 e2
  go_enter Try.func49, Try.ntmps49
  go_wp2_with fail
  refine (H1.out _).mono ?_
  rintro e w1 ⟨rfl, hb1⟩
  obtain ⟨hc1, hf1⟩ := bcell hb1
  have hz1 := hb1.size
  try simp at hz1
  have z1_0 : w.heap.size < w1.heap.size := by omega
  go_wp2_with fail
  refine (H2.out _).mono ?_
  rintro e w2 ⟨rfl, hb2⟩
  obtain ⟨hc2, hf2⟩ := bcell hb2
  have hz2 := hb2.size
  try simp at hz2
  have z2_0 : w.heap.size < w2.heap.size := by omega
  go_wp2
  go_quiet (fail)
  go_wp2
  go_ret
  refine ⟨ret_bool (by rw [← E1.out, ← E2.out]), ?_⟩
  repeat (first | exact Below.refl _ _ | assumption | exact Below.alloc (Below.refl _ _) (Nat.le_refl _) _ | refine Below.setCell ?_ (by first | (simp; done) | (simp; omega) | omega) _ | refine below_drewN ?_ _ | refine Below.alloc ?_ (by first | (simp; done) | (simp; omega) | omega) _ | refine Below.trans ?_ (Below.mono (by assumption) (by first | (simp; done) | (simp; omega) | omega)))

set_option maxHeartbeats 1600000 in
set_option maxRecDepth 100000 in
theorem better_211 (m : Met) (x y : Int) (w : World) :
    Calls Try.prog 49 #[.agg #[.int .i64 m.aa, .int .i64 m.ab, .int .i64 m.ac, .int .i64 m.ab, .int .i64 m.bb, .int .i64 m.bc, .int .i64 m.ac, .int .i64 m.bc, .int .i64 m.cc], .int .i64 2, .int .i64 1, .int .i64 x, .int .i64 1, .int .i64 y] w fun e w' => e = .returned (.bool (decide ((aw21 y (aw21 x m)).cc < m.cc))) ∧ Below w.heap.size w w' := by
  have A1 := fun w => added_21 m x w
  obtain ⟨m1, e1⟩ : ∃ q, q = aw21 x m := ⟨_, rfl⟩
  rw [← e1] at A1
  have A2 := fun w => added_21 m1 y w
  obtain ⟨m2, e2⟩ : ∃ q, q = aw21 y m1 := ⟨_, rfl⟩
  rw [← e2] at A2
  have H1 := Lib.hid A1; have H2 := Lib.hid A2; have E1 := Lib.hid e1; have E2 := Lib.hid e2; clear A1 A2 e1 e2
  go_enter Try.func49, Try.ntmps49
  go_wp2_with fail
  refine (H1.out _).mono ?_
  rintro e w1 ⟨rfl, hb1⟩
  obtain ⟨hc1, hf1⟩ := bcell hb1
  have hz1 := hb1.size
  try simp at hz1
  have z1_0 : w.heap.size < w1.heap.size := by omega
  go_wp2_with fail
  refine (H2.out _).mono ?_
  rintro e w2 ⟨rfl, hb2⟩
  obtain ⟨hc2, hf2⟩ := bcell hb2
  have hz2 := hb2.size
  try simp at hz2
  have z2_0 : w.heap.size < w2.heap.size := by omega
  go_wp2
  go_quiet (fail)
  go_wp2
  go_ret
  refine ⟨ret_bool (by rw [← E1.out, ← E2.out]), ?_⟩
  repeat (first | exact Below.refl _ _ | assumption | exact Below.alloc (Below.refl _ _) (Nat.le_refl _) _ | refine Below.setCell ?_ (by first | (simp; done) | (simp; omega) | omega) _ | refine below_drewN ?_ _ | refine Below.alloc ?_ (by first | (simp; done) | (simp; omega) | omega) _ | refine Below.trans ?_ (Below.mono (by assumption) (by first | (simp; done) | (simp; omega) | omega)))

set_option maxHeartbeats 1600000 in
set_option maxRecDepth 100000 in
theorem better_012 (m : Met) (x y : Int) (w : World) :
    Calls Try.prog 49 #[.agg #[.int .i64 m.aa, .int .i64 m.ab, .int .i64 m.ac, .int .i64 m.ab, .int .i64 m.bb, .int .i64 m.bc, .int .i64 m.ac, .int .i64 m.bc, .int .i64 m.cc], .int .i64 0, .int .i64 1, .int .i64 x, .int .i64 2, .int .i64 y] w fun e w' => e = .returned (.bool (decide ((aw02 y (aw01 x m)).aa < m.aa))) ∧ Below w.heap.size w w' := by
  have A1 := fun w => added_01 m x w
  obtain ⟨m1, e1⟩ : ∃ q, q = aw01 x m := ⟨_, rfl⟩
  rw [← e1] at A1
  have A2 := fun w => added_02 m1 y w
  obtain ⟨m2, e2⟩ : ∃ q, q = aw02 y m1 := ⟨_, rfl⟩
  rw [← e2] at A2
  have H1 := Lib.hid A1; have H2 := Lib.hid A2; have E1 := Lib.hid e1; have E2 := Lib.hid e2; clear A1 A2 e1 e2
  go_enter Try.func49, Try.ntmps49
  go_wp2_with fail
  refine (H1.out _).mono ?_
  rintro e w1 ⟨rfl, hb1⟩
  obtain ⟨hc1, hf1⟩ := bcell hb1
  have hz1 := hb1.size
  try simp at hz1
  have z1_0 : w.heap.size < w1.heap.size := by omega
  go_wp2_with fail
  refine (H2.out _).mono ?_
  rintro e w2 ⟨rfl, hb2⟩
  obtain ⟨hc2, hf2⟩ := bcell hb2
  have hz2 := hb2.size
  try simp at hz2
  have z2_0 : w.heap.size < w2.heap.size := by omega
  go_wp2
  go_quiet (fail)
  go_wp2
  go_ret
  refine ⟨ret_bool (by rw [← E1.out, ← E2.out]), ?_⟩
  repeat (first | exact Below.refl _ _ | assumption | exact Below.alloc (Below.refl _ _) (Nat.le_refl _) _ | refine Below.setCell ?_ (by first | (simp; done) | (simp; omega) | omega) _ | refine below_drewN ?_ _ | refine Below.alloc ?_ (by first | (simp; done) | (simp; omega) | omega) _ | refine Below.trans ?_ (Below.mono (by assumption) (by first | (simp; done) | (simp; omega) | omega)))

set_option maxHeartbeats 1600000 in
set_option maxRecDepth 100000 in
theorem better_120 (m : Met) (x y : Int) (w : World) :
    Calls Try.prog 49 #[.agg #[.int .i64 m.aa, .int .i64 m.ab, .int .i64 m.ac, .int .i64 m.ab, .int .i64 m.bb, .int .i64 m.bc, .int .i64 m.ac, .int .i64 m.bc, .int .i64 m.cc], .int .i64 1, .int .i64 2, .int .i64 x, .int .i64 0, .int .i64 y] w fun e w' => e = .returned (.bool (decide ((aw10 y (aw12 x m)).bb < m.bb))) ∧ Below w.heap.size w w' := by
  have A1 := fun w => added_12 m x w
  obtain ⟨m1, e1⟩ : ∃ q, q = aw12 x m := ⟨_, rfl⟩
  rw [← e1] at A1
  have A2 := fun w => added_10 m1 y w
  obtain ⟨m2, e2⟩ : ∃ q, q = aw10 y m1 := ⟨_, rfl⟩
  rw [← e2] at A2
  have H1 := Lib.hid A1; have H2 := Lib.hid A2; have E1 := Lib.hid e1; have E2 := Lib.hid e2; clear A1 A2 e1 e2
  go_enter Try.func49, Try.ntmps49
  go_wp2_with fail
  refine (H1.out _).mono ?_
  rintro e w1 ⟨rfl, hb1⟩
  obtain ⟨hc1, hf1⟩ := bcell hb1
  have hz1 := hb1.size
  try simp at hz1
  have z1_0 : w.heap.size < w1.heap.size := by omega
  go_wp2_with fail
  refine (H2.out _).mono ?_
  rintro e w2 ⟨rfl, hb2⟩
  obtain ⟨hc2, hf2⟩ := bcell hb2
  have hz2 := hb2.size
  try simp at hz2
  have z2_0 : w.heap.size < w2.heap.size := by omega
  go_wp2
  go_quiet (fail)
  go_wp2
  go_ret
  refine ⟨ret_bool (by rw [← E1.out, ← E2.out]), ?_⟩
  repeat (first | exact Below.refl _ _ | assumption | exact Below.alloc (Below.refl _ _) (Nat.le_refl _) _ | refine Below.setCell ?_ (by first | (simp; done) | (simp; omega) | omega) _ | refine below_drewN ?_ _ | refine Below.alloc ?_ (by first | (simp; done) | (simp; omega) | omega) _ | refine Below.trans ?_ (Below.mono (by assumption) (by first | (simp; done) | (simp; omega) | omega)))

set_option maxHeartbeats 1600000 in
set_option maxRecDepth 100000 in
theorem better_201 (m : Met) (x y : Int) (w : World) :
    Calls Try.prog 49 #[.agg #[.int .i64 m.aa, .int .i64 m.ab, .int .i64 m.ac, .int .i64 m.ab, .int .i64 m.bb, .int .i64 m.bc, .int .i64 m.ac, .int .i64 m.bc, .int .i64 m.cc], .int .i64 2, .int .i64 0, .int .i64 x, .int .i64 1, .int .i64 y] w fun e w' => e = .returned (.bool (decide ((aw21 y (aw20 x m)).cc < m.cc))) ∧ Below w.heap.size w w' := by
  have A1 := fun w => added_20 m x w
  obtain ⟨m1, e1⟩ : ∃ q, q = aw20 x m := ⟨_, rfl⟩
  rw [← e1] at A1
  have A2 := fun w => added_21 m1 y w
  obtain ⟨m2, e2⟩ : ∃ q, q = aw21 y m1 := ⟨_, rfl⟩
  rw [← e2] at A2
  have H1 := Lib.hid A1; have H2 := Lib.hid A2; have E1 := Lib.hid e1; have E2 := Lib.hid e2; clear A1 A2 e1 e2
  go_enter Try.func49, Try.ntmps49
  go_wp2_with fail
  refine (H1.out _).mono ?_
  rintro e w1 ⟨rfl, hb1⟩
  obtain ⟨hc1, hf1⟩ := bcell hb1
  have hz1 := hb1.size
  try simp at hz1
  have z1_0 : w.heap.size < w1.heap.size := by omega
  go_wp2_with fail
  refine (H2.out _).mono ?_
  rintro e w2 ⟨rfl, hb2⟩
  obtain ⟨hc2, hf2⟩ := bcell hb2
  have hz2 := hb2.size
  try simp at hz2
  have z2_0 : w.heap.size < w2.heap.size := by omega
  go_wp2
  go_quiet (fail)
  go_wp2
  go_ret
  refine ⟨ret_bool (by rw [← E1.out, ← E2.out]), ?_⟩
  repeat (first | exact Below.refl _ _ | assumption | exact Below.alloc (Below.refl _ _) (Nat.le_refl _) _ | refine Below.setCell ?_ (by first | (simp; done) | (simp; omega) | omega) _ | refine below_drewN ?_ _ | refine Below.alloc ?_ (by first | (simp; done) | (simp; omega) | omega) _ | refine Below.trans ?_ (Below.mono (by assumption) (by first | (simp; done) | (simp; omega) | omega)))

end Go.Proofs.Ytdhlkhockpblhaa
