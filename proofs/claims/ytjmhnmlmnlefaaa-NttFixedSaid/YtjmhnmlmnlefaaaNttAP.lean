/-
  The law NttFixed.
-/
import Derived.Test.YtjmhnmlmnlefaaaNttAN
namespace Go.Proofs.Ytjmhnmlmnlefaaa
open Go.RowKit Go.Lib
attribute [local irreducible] World.setCell
set_option linter.unusedSimpArgs false
set_option linter.unusedVariables false


theorem right_4 : rightB (4 : Nat) = true := by decide
theorem rt_1 : rt 1 = 1 := by
  have h := rt_one (n := 1) (by decide) (by decide)
  rw [pw_one] at h
  exact h
theorem rt_4 : rt 4 * rt 4 = -1 := by
  have h := rt_half (n := 4) (by decide) (by decide) (by decide)
  rw [show 4 / 2 = 1 + 1 by decide, pw_succ, pw_one] at h
  exact h
theorem fx_a (i : Nat) (hi : i < 1) : wd (dft 1 (rt 1) (fun _ => 5) i) = wn (([5] : List Nat).getD i 0) := by
  match i, hi with
  | 0, _ => rw [rt_1]; rfl
theorem fx_b (i : Nat) (hi : i < 3) : wd (dft 3 (rt 3) (fun i => if i = 0 then 1 else 0) i) = wn (([1, 1, 1] : List Nat).getD i 0) := by
  have e : ∀ j, dft 3 (rt 3) (fun i => if i = 0 then 1 else 0) j = 1 := fun j => by
    unfold dft
    rw [sm_succ, sm_succ, sm_succ, sm_zero]
    show 0 + (1 : F) * pw (rt 3) (j * 0) + 0 * pw (rt 3) (j * 1) + 0 * pw (rt 3) (j * 2) = 1
    rw [Nat.mul_zero, pw_zero]
    grind
  rw [e]
  match i, hi with
  | 0, _ => rfl
  | 1, _ => rfl
  | 2, _ => rfl
theorem fx_c (i : Nat) (hi : i < 2) : wd (idft 2 (fun i => if i = 0 then 3 else -1) i) = wn (([1, 2] : List Nat).getD i 0) := by
  have e : idft 2 (fun i => if i = 0 then 3 else -1) i = idft 2 (dft 2 (rt 2) ax) i := by
    unfold idft
    rw [dft_congr (y := dft 2 (rt 2) ax) (fun j hj => Fin.ext (by
      rw [awake_line j hj]
      match j, hj with
      | 0, _ => decide +kernel
      | 1, _ => decide +kernel))]
  have e2 := congrArg (fun z : F => Value.int .u64 ((z.val : Nat) : Int)) (e.trans (idft_dft (right_le right_2) ax hi))
  have h : i = 0 ∨ i = 1 := by omega
  refine Eq.trans e2 ?_
  rcases h with rfl | rfl
  · rw [show (ax 0).val = 1 by decide +kernel]; rfl
  · rw [show (ax 1).val = 2 by decide +kernel]; rfl
theorem lit_rdw (w : World) (l : List Nat) : Rd (w.alloc (.cells (l.map (fun n => wn n)).toArray 41)) (.slice (some ⟨w.heap.size, 0, none⟩) l.length l.length) l.length (fun i => wn (l.getD i 0)) := by
  have h := World.rowIs_alloc w (l.map (fun n => wn n)).toArray 41 (fun i => wn (l.getD i 0)) (fun i hi => by
    have : i < l.length := by simpa using hi
    simp [this])
  have h2 := rd_row h
  simpa using h2
theorem alloc_below (W : World) (o : Obj) : Below W.heap.size W (W.alloc o) := (Below.refl _ _).alloc (Nat.le_refl _) o
theorem lit_rdi (w : World) (l : List Int) : Rd (w.alloc (.cells (l.map (fun n => .int .i64 n)).toArray 3)) (.slice (some ⟨w.heap.size, 0, none⟩) l.length l.length) l.length (fun i => .int .i64 (l.getD i 0)) := by
  have h := World.rowIs_alloc w (l.map (fun n => Value.int .i64 n)).toArray 3 (fun i => .int .i64 (l.getD i 0)) (fun i hi => by
    have : i < l.length := by simpa using hi
    simp [this])
  have h2 := rd_row h
  simpa using h2
set_option maxRecDepth 100000 in
theorem line_any (n : Int) (a : Option Addr) (l c : Nat) (w : World) : Calls Try.prog 31 #[.int .i64 n, .slice a l c] w fun e w' => e = .returned (.agg #[.int .i64 n, .int .i64 1, .int .i64 1, .slice a l c]) ∧ Below w.heap.size w w' := by
  go_enter Try.func31, Try.ntmps31
  go_wp2
  refine bodyPost_ret (v := .agg #[.int .i64 n, .int .i64 1, .int .i64 1, .slice a l c]) (by simp [results, Try.results31, go_sem]) rfl ⟨rfl, (by repeat (first | assumption | exact Below.refl _ _ | refine below_drewN ?_ _ | refine Below.drew ?_ | refine Below.alloc ?_ (by first | (simp; done) | (simp; omega) | omega) _ | refine Below.setCell ?_ (by first | (simp; done) | (simp; omega) | omega) _))⟩
/-- A fold of two grids whose sides are right, refused. -/
theorem fold_lits (n0 n1 n2 m0 m1 m2 la lb ma mb : Nat) (V W : Nat → Int) (sa sb : Value) (w : World) (f : Int) (hA : Rd w sa la (fun i => .int .i64 (V i))) (hB : Rd w sb lb (fun i => .int .i64 (W i)))
    (ra : rightB n0 = true ∧ rightB n1 = true ∧ rightB n2 = true) (rb : rightB m0 = true ∧ rightB m1 = true ∧ rightB m2 = true) (hla : la ≤ 17592186044416) (hlb : lb ≤ 17592186044416) (hma : ma ≤ la) (hmb : mb ≤ lb)
    (hVa : ∀ i, i < ma → -1048576 ≤ V i ∧ V i ≤ 1048576) (hVb : ∀ i, i < mb → -1048576 ≤ W i ∧ W i ≤ 1048576) (hba : ma < la → V ma < -1048576 ∨ 1048576 < V ma) (hbb : mb < lb → W mb < -1048576 ∨ 1048576 < W mb)
    (hf : fcode n0 n1 n2 m0 m1 m2 (cerr (n0 * n1 * n2) la ma) (cerr (m0 * m1 * m2) lb mb) = f ∧ f ≠ 0) : Refuses (gv n0 n1 n2 sa) (gv m0 m1 m2 sb) f w := by
  obtain ⟨a, ka, rfl, ha⟩ := hA
  obtain ⟨b, kb, rfl, hb⟩ := hB
  have h := Fold_bad n0 n1 n2 m0 m1 m2 (cerr (n0 * n1 * n2) la ma) (cerr (m0 * m1 * m2) lb mb) (.slice a la ka) (.slice b lb kb) w (by rw [hf.1]; exact hf.2)
    (fun w' hw => counts_box n0 n1 n2 la ka ma a V w' ra.1 ra.2.1 ra.2.2 hla (fun q => by obtain ⟨c, d, e1, e2, e3⟩ := ha q; exact ⟨c, d, e1, Nat.lt_of_lt_of_le e2 hw.size, fun i hi => (hw.cell (p := ⟨c, d + i, none⟩) e2).trans (e3 i hi)⟩) hma hVa hba)
    (fun w' hw => counts_box m0 m1 m2 lb kb mb b W w' rb.1 rb.2.1 rb.2.2 hlb (fun q => by obtain ⟨c, d, e1, e2, e3⟩ := hb q; exact ⟨c, d, e1, Nat.lt_of_lt_of_le e2 hw.size, fun i hi => (hw.cell (p := ⟨c, d + i, none⟩) e2).trans (e3 i hi)⟩) hmb hVb hbb)
  rw [hf.1] at h
  exact h
theorem fold_arg (n0 n1 n2 m0 m1 m2 : Int) (sa sb : Value) (w : World) (ra : (rightB n0 && rightB n1 && rightB n2) = false) (rb : (rightB m0 && rightB m1 && rightB m2) = false) : Refuses (gv n0 n1 n2 sa) (gv m0 m1 m2 sb) 1 w := by
  have hf : fcode n0 n1 n2 m0 m1 m2 1 1 = 1 := by unfold fcode; rw [if_neg (by decide)]; decide
  have h := Fold_bad n0 n1 n2 m0 m1 m2 1 1 sa sb w (by rw [hf]; decide) (fun w' _ => counts_bad n0 n1 n2 sa w' ra) (fun w' _ => counts_bad m0 m1 m2 sb w' rb)
  rw [hf] at h
  exact h
theorem fold_two (n0 n1 n2 L : Nat) (l k : List Int) {sa sb : Value} (w : World) (hA : Rd w sa L (fun i => .int .i64 (l.getD i 0))) (hB : Rd w sb L (fun i => .int .i64 (k.getD i 0))) (hr : rightB n0 = true ∧ rightB n1 = true ∧ rightB n2 = true) (hL : L = n0 * n1 * n2) (hLb : L ≤ 262144) (h0 : 0 < L)
    (hV : ∀ i, i < L → -1048576 ≤ l.getD i 0 ∧ l.getD i 0 ≤ 1048576) (hW : ∀ i, i < L → -1048576 ≤ k.getD i 0 ∧ k.getD i 0 ≤ 1048576) :
    Calls Try.prog 15 #[gv n0 n1 n2 sa, gv n0 n1 n2 sb] w fun e w' => (∃ g, e = .returned (.tuple #[.agg #[.int .i64 n0, .int .i64 n1, .int .i64 n2, .slice (some ⟨g, 0, none⟩) L L], .int .i64 0]) ∧ w.heap.size ≤ g ∧ w'.rowIs g 3 L (fun i => .int .i64 (foldZ n0 n1 n2 (fun i => l.getD i 0) (fun i => k.getD i 0) i))) ∧ Below w.heap.size w w' := by
  obtain ⟨a, ka, rfl, ha⟩ := hA
  obtain ⟨b, kb, rfl, hb⟩ := hB
  obtain ⟨c, d, rfl, e2, e3⟩ := ha h0
  obtain ⟨c', d', rfl, f2, f3⟩ := hb h0
  exact Fold_ok n0 n1 n2 L c d ka c' d' kb _ _ w hr hL hLb e2 f2 e3 hV f3 hW
theorem sz_const (n : Nat) (c : Int) : sz n (fun _ => c) = n * c := by
  induction n with
  | zero => show (0 : Int) = ((0 : Nat) : Int) * c; simp
  | succ n ih => show sz n _ + c = _; rw [ih, Int.natCast_add, Int.add_mul]; simp
theorem fx_y (i : Nat) (hi : i < 192) : foldZ 1 192 1 (fun _ => -1048576) (fun _ => 1048576) i = -211106232532992 := by
  rw [fold_sb (by decide) (by decide), sz_const]
  rfl
theorem fx_x (i : Nat) (hi : i < 2) : Value.int .i64 (foldZ 2 1 1 (fun i => ([1, 2] : List Int).getD i 0) (fun i => ([1, 2] : List Int).getD i 0) i) = .int .i64 (([5, 4] : List Int).getD i 0) := by
  match i, hi with
  | 0, _ => exact congrArg _ (by decide +kernel)
  | 1, _ => exact congrArg _ (by decide +kernel)
set_option maxHeartbeats 16000000 in
set_option maxRecDepth 100000 in
theorem fixed_any (w : World) : Calls Try.prog 11 #[] w fun e w' => e = .returned (.bool true) ∧ Below w.heap.size w w' := by
  go_enter Try.func11, Try.ntmps11
  go_wp2_with fail
  refine (awake_any _).mono ?_
  rintro e W1 ⟨rfl, hb1⟩
  have HB := Lib.hid hb1
  clear hb1
  have RH := Lib.hid (Has.nil W1)
  go_wp2_with fail
  refine (Root_ok 1 _ right_1).mono ?_
  rintro e W2 ⟨rfl, k, hw⟩
  have hb : Below W1.heap.size W1 W2 := by rw [hw]; exact below_drewN (Below.refl _ _) k
  have hbx := hb
  replace RH := Lib.hid (show Has [] W2 from RH.out.step hbx)
  replace HB := Lib.hid (HB.out.trans (hbx.mono HB.out.size))
  clear hbx hb
  clear hw
  go_wp2_with fail
  refine (Root_ok 2 _ right_2).mono ?_
  rintro e W3 ⟨rfl, k, hw⟩
  have hb : Below W2.heap.size W2 W3 := by rw [hw]; exact below_drewN (Below.refl _ _) k
  have hbx := hb
  replace RH := Lib.hid (show Has [] W3 from RH.out.step hbx)
  replace HB := Lib.hid (HB.out.trans (hbx.mono HB.out.size))
  clear hbx hb
  clear hw
  go_wp2_with fail
  refine (Root_ok 4 _ right_4).mono ?_
  rintro e W4 ⟨rfl, k, hw⟩
  have hb : Below W3.heap.size W3 W4 := by rw [hw]; exact below_drewN (Below.refl _ _) k
  have hbx := hb
  replace RH := Lib.hid (show Has [] W4 from RH.out.step hbx)
  replace HB := Lib.hid (HB.out.trans (hbx.mono HB.out.size))
  clear hbx hb
  clear hw
  obtain ⟨u, eu⟩ : ∃ u, u = rt 4 := ⟨_, rfl⟩
  rw [← eu, rt_1, rt_2]
  have EU := Lib.hid eu
  clear eu
  go_wp2_with fail
  refine (rmul_any u u _).mono ?_
  rintro e w' ⟨rfl, rfl⟩
  rw [show u * u = -1 by rw [EU.out]; exact rt_4]
  go_wp2
  refine wp_loop_rounds 7 ?_
  rw [rounds_succ]
  go_wp2_with fail
  refine (Root_bad (5) _ (by decide)).mono ?_
  rintro e w' ⟨rfl, rfl⟩
  go_wp2
  rw [rounds_succ]
  go_wp2_with fail
  refine (Root_bad (0) _ (by decide)).mono ?_
  rintro e w' ⟨rfl, rfl⟩
  go_wp2
  rw [rounds_succ]
  go_wp2_with fail
  refine (Root_bad (-3) _ (by decide)).mono ?_
  rintro e w' ⟨rfl, rfl⟩
  go_wp2
  rw [rounds_succ]
  go_wp2_with fail
  refine (Root_bad (384) _ (by decide)).mono ?_
  rintro e w' ⟨rfl, rfl⟩
  go_wp2
  rw [rounds_succ]
  go_wp2_with fail
  refine (Root_bad (9) _ (by decide)).mono ?_
  rintro e w' ⟨rfl, rfl⟩
  go_wp2
  rw [rounds_succ]
  go_wp2_with fail
  refine (Root_bad (128) _ (by decide)).mono ?_
  rintro e w' ⟨rfl, rfl⟩
  go_wp2
  rw [rounds_succ]
  go_wp2_with fail
  refine (Line_ok (W4.heap.size + 1) 0 1 1 (fun _ => 5) _ right_1 (by simp) (fun i hi => by match i, hi with | 0, _ => exact (show ((W4.alloc (.cells #[.int .i64 5, .int .i64 0, .int .i64 (-3), .int .i64 384, .int .i64 9, .int .i64 128] 3)).alloc (.cells #[.int .u64 5] 41)).cell? ⟨W4.heap.size + 1, 0, none⟩ = some (.int .u64 5) by go_simp))).mono ?_
  rintro e W5 ⟨⟨ga, rfl, hg, hr⟩, hb⟩
  have hbx : Below W4.heap.size W4 W5 := Below.trans (show Below W4.heap.size W4 ((W4.alloc (.cells #[.int .i64 5, .int .i64 0, .int .i64 (-3), .int .i64 384, .int .i64 9, .int .i64 128] 3)).alloc (.cells #[.int .u64 5] 41)) from (by repeat (first | assumption | exact Below.refl _ _ | refine below_drewN ?_ _ | refine Below.drew ?_ | refine Below.alloc ?_ (by first | (simp; done) | (simp; omega) | omega) _ | refine Below.setCell ?_ (by first | (simp; done) | (simp; omega) | omega) _))) (hb.mono (by first | (simp; done) | (simp; omega)))
  replace RH := Lib.hid (show Has [⟨ga, 41, 1, fun i => wn (([5] : List Nat).getD i 0)⟩] W5 from .cons (hr.congr (fun i hi => fx_a i hi)) (RH.out.step hbx))
  replace HB := Lib.hid (HB.out.trans (hbx.mono HB.out.size))
  clear hbx hb
  clear hg hr
  go_wp2_with fail
  refine (Line_ok W5.heap.size 0 3 3 (fun i => if i = 0 then 1 else 0) _ right_3 (by simp) (three_cells (a := .int .u64 1) (b := .int .u64 0) (c := .int .u64 0) (by go_simp) (by go_simp) (by go_simp) (fun i => wd (if i = 0 then 1 else 0)) rfl rfl rfl)).mono ?_
  rintro e W6 ⟨⟨gb, rfl, hg, hr⟩, hb⟩
  have hbx : Below W5.heap.size W5 W6 := Below.trans (show Below W5.heap.size W5 (W5.alloc (.cells #[.int .u64 1, .int .u64 0, .int .u64 0] 41)) from (by repeat (first | assumption | exact Below.refl _ _ | refine below_drewN ?_ _ | refine Below.drew ?_ | refine Below.alloc ?_ (by first | (simp; done) | (simp; omega) | omega) _ | refine Below.setCell ?_ (by first | (simp; done) | (simp; omega) | omega) _))) (hb.mono (by first | (simp; done) | (simp; omega)))
  replace RH := Lib.hid (show Has [⟨gb, 41, 3, fun i => wn (([1, 1, 1] : List Nat).getD i 0)⟩, ⟨ga, 41, 1, fun i => wn (([5] : List Nat).getD i 0)⟩] W6 from .cons (hr.congr (fun i hi => fx_b i hi)) (RH.out.step hbx))
  replace HB := Lib.hid (HB.out.trans (hbx.mono HB.out.size))
  clear hbx hb
  clear hg hr
  go_wp2_with fail
  refine (Unline_ok W6.heap.size 0 2 2 (fun i => if i = 0 then 3 else -1) _ right_2 (by simp) (two_cells (a := .int .u64 3) (b := .int .u64 18446744069414584320) (by go_simp) (by go_simp) (fun i => wd (if i = 0 then 3 else -1)) rfl rfl)).mono ?_
  rintro e W7 ⟨⟨gc, rfl, hg, hr⟩, hb⟩
  have hbx : Below W6.heap.size W6 W7 := Below.trans (show Below W6.heap.size W6 (W6.alloc (.cells #[.int .u64 3, .int .u64 18446744069414584320] 41)) from (by repeat (first | assumption | exact Below.refl _ _ | refine below_drewN ?_ _ | refine Below.drew ?_ | refine Below.alloc ?_ (by first | (simp; done) | (simp; omega) | omega) _ | refine Below.setCell ?_ (by first | (simp; done) | (simp; omega) | omega) _))) (hb.mono (by first | (simp; done) | (simp; omega)))
  replace RH := Lib.hid (show Has [⟨gc, 41, 2, fun i => wn (([1, 2] : List Nat).getD i 0)⟩, ⟨gb, 41, 3, fun i => wn (([1, 1, 1] : List Nat).getD i 0)⟩, ⟨ga, 41, 1, fun i => wn (([5] : List Nat).getD i 0)⟩] W7 from .cons (hr.congr (fun i hi => fx_c i hi)) (RH.out.step hbx))
  replace HB := Lib.hid (HB.out.trans (hbx.mono HB.out.size))
  clear hbx hb
  clear hg hr
  have hmk : ∀ w, (Instr.makeSlice 40 (.int .i64 5) (.int .i64 5)).run Try.prog w = .ok (.slice (some ⟨w.heap.size, 0, none⟩) 5 5) (w.alloc (.cells (madeCells #[.int .u64 0] 5) 41)) := mk41 5 (by decide)
  go_wp2_with fail
  refine (Line_arg _ 5 5 _ (by decide)).mono ?_
  rintro e w' ⟨rfl, rfl⟩
  clear hmk
  go_wp2_with fail
  refine (Line_form (W7.heap.size + 1) 0 2 2 0 (fun i => if i = 0 then 18446744069414584321 else 0) _ right_2 (by decide) (two_cells (a := .int .u64 18446744069414584321) (b := .int .u64 0) (by go_simp) (by go_simp) (fun i => wn (if i = 0 then 18446744069414584321 else 0)) rfl rfl) (fun i hi => absurd hi (Nat.not_lt_zero _)) (by decide)).mono ?_
  rintro e w' ⟨rfl, rfl⟩
  go_wp2_with fail
  refine (Line_arg _ 5 5 _ (by decide)).mono ?_
  rintro e w' ⟨rfl, rfl⟩
  go_wp2_with fail
  refine (Unline_arg none 0 0 _ (by decide)).mono ?_
  rintro e w' ⟨rfl, rfl⟩
  obtain ⟨W8, eW8⟩ : ∃ X, X = ((W7.alloc (.cells (madeCells #[.int .u64 0] 5) 41)).alloc (.cells #[.int .u64 18446744069414584321, .int .u64 0] 41)).alloc (.cells #[.int .u64 18446744069414584321, .int .u64 0, .int .u64 0, .int .u64 0, .int .u64 0] 41) := ⟨_, rfl⟩
  have hb : Below W7.heap.size W7 W8 := by rw [eW8]; exact (by repeat (first | assumption | exact Below.refl _ _ | refine below_drewN ?_ _ | refine Below.drew ?_ | refine Below.alloc ?_ (by first | (simp; done) | (simp; omega) | omega) _ | refine Below.setCell ?_ (by first | (simp; done) | (simp; omega) | omega) _))
  rw [← eW8]
  clear eW8
  have hbx := hb
  replace RH := Lib.hid (show Has [⟨gc, 41, 2, fun i => wn (([1, 2] : List Nat).getD i 0)⟩, ⟨gb, 41, 3, fun i => wn (([1, 1, 1] : List Nat).getD i 0)⟩, ⟨ga, 41, 1, fun i => wn (([5] : List Nat).getD i 0)⟩] W8 from RH.out.step hbx)
  replace HB := Lib.hid (HB.out.trans (hbx.mono HB.out.size))
  clear hbx hb
  go_wp2_with fail
  refine (same_words (n := 1) (X := fun i => ([5] : List Nat).getD i 0) ((rd_row (show World.rowIs W8 (ga) 41 (1) (fun i => wn (([5] : List Nat).getD i 0)) from RH.out.one 2 (by simp))).below (alloc_below _ _)) (lit_rdw W8 [5]) (by decide)).mono ?_
  rintro e W9 ⟨rfl, k, hw⟩
  have hb : Below W8.heap.size W8 W9 := by rw [hw]; exact below_drewN (alloc_below _ _) k
  have hbx := hb
  replace RH := Lib.hid (show Has [⟨gc, 41, 2, fun i => wn (([1, 2] : List Nat).getD i 0)⟩, ⟨gb, 41, 3, fun i => wn (([1, 1, 1] : List Nat).getD i 0)⟩, ⟨ga, 41, 1, fun i => wn (([5] : List Nat).getD i 0)⟩] W9 from RH.out.step hbx)
  replace HB := Lib.hid (HB.out.trans (hbx.mono HB.out.size))
  clear hbx hb
  clear hw
  go_wp2_with fail
  refine (same_words (n := 3) (X := fun i => ([1, 1, 1] : List Nat).getD i 0) ((rd_row (show World.rowIs W9 (gb) 41 (3) (fun i => wn (([1, 1, 1] : List Nat).getD i 0)) from RH.out.one 1 (by simp))).below (alloc_below _ _)) (lit_rdw W9 [1, 1, 1]) (by decide)).mono ?_
  rintro e W10 ⟨rfl, k, hw⟩
  have hb : Below W9.heap.size W9 W10 := by rw [hw]; exact below_drewN (alloc_below _ _) k
  have hbx := hb
  replace RH := Lib.hid (show Has [⟨gc, 41, 2, fun i => wn (([1, 2] : List Nat).getD i 0)⟩, ⟨gb, 41, 3, fun i => wn (([1, 1, 1] : List Nat).getD i 0)⟩, ⟨ga, 41, 1, fun i => wn (([5] : List Nat).getD i 0)⟩] W10 from RH.out.step hbx)
  replace HB := Lib.hid (HB.out.trans (hbx.mono HB.out.size))
  clear hbx hb
  clear hw
  go_wp2_with fail
  refine (same_words (n := 2) (X := fun i => ([1, 2] : List Nat).getD i 0) ((rd_row (show World.rowIs W10 (gc) 41 (2) (fun i => wn (([1, 2] : List Nat).getD i 0)) from RH.out.one 0 (by simp))).below (alloc_below _ _)) (lit_rdw W10 [1, 2]) (by decide)).mono ?_
  rintro e W11 ⟨rfl, k, hw⟩
  have hb : Below W10.heap.size W10 W11 := by rw [hw]; exact below_drewN (alloc_below _ _) k
  have hbx := hb
  replace RH := Lib.hid (show Has [⟨gc, 41, 2, fun i => wn (([1, 2] : List Nat).getD i 0)⟩, ⟨gb, 41, 3, fun i => wn (([1, 1, 1] : List Nat).getD i 0)⟩, ⟨ga, 41, 1, fun i => wn (([5] : List Nat).getD i 0)⟩] W11 from RH.out.step hbx)
  replace HB := Lib.hid (HB.out.trans (hbx.mono HB.out.size))
  clear hbx hb
  clear hw
  go_wp2_with fail
  refine (line_any 2 _ _ _ _).mono ?_
  rintro e W12 ⟨rfl, hb⟩
  have Ra := Lib.hid ((lit_rdi W11 ([1, 2] : List Int)).below hb)
  have hbx : Below W11.heap.size W11 W12 := Below.trans (show Below W11.heap.size W11 (W11.alloc (.cells #[.int .i64 1, .int .i64 2] 3)) from (by repeat (first | assumption | exact Below.refl _ _ | refine below_drewN ?_ _ | refine Below.drew ?_ | refine Below.alloc ?_ (by first | (simp; done) | (simp; omega) | omega) _ | refine Below.setCell ?_ (by first | (simp; done) | (simp; omega) | omega) _))) (hb.mono (by first | (simp; done) | (simp; omega)))
  replace RH := Lib.hid (show Has [⟨gc, 41, 2, fun i => wn (([1, 2] : List Nat).getD i 0)⟩, ⟨gb, 41, 3, fun i => wn (([1, 1, 1] : List Nat).getD i 0)⟩, ⟨ga, 41, 1, fun i => wn (([5] : List Nat).getD i 0)⟩] W12 from RH.out.step hbx)
  replace HB := Lib.hid (HB.out.trans (hbx.mono HB.out.size))
  clear hbx hb
  go_wp2_with fail
  refine (line_any 2 _ _ _ _).mono ?_
  rintro e W13 ⟨rfl, hb⟩
  replace Ra := Lib.hid ((Ra.out.below (alloc_below W12 (.cells #[.int .i64 1, .int .i64 2] 3))).below hb)
  have Rb := Lib.hid ((lit_rdi W12 ([1, 2] : List Int)).below hb)
  have hbx : Below W12.heap.size W12 W13 := Below.trans (show Below W12.heap.size W12 (W12.alloc (.cells #[.int .i64 1, .int .i64 2] 3)) from (by repeat (first | assumption | exact Below.refl _ _ | refine below_drewN ?_ _ | refine Below.drew ?_ | refine Below.alloc ?_ (by first | (simp; done) | (simp; omega) | omega) _ | refine Below.setCell ?_ (by first | (simp; done) | (simp; omega) | omega) _))) (hb.mono (by first | (simp; done) | (simp; omega)))
  replace RH := Lib.hid (show Has [⟨gc, 41, 2, fun i => wn (([1, 2] : List Nat).getD i 0)⟩, ⟨gb, 41, 3, fun i => wn (([1, 1, 1] : List Nat).getD i 0)⟩, ⟨ga, 41, 1, fun i => wn (([5] : List Nat).getD i 0)⟩] W13 from RH.out.step hbx)
  replace HB := Lib.hid (HB.out.trans (hbx.mono HB.out.size))
  clear hbx hb
  go_wp2_with fail
  refine (fold_two 2 1 1 2 ([1, 2] : List Int) ([1, 2] : List Int) _ (Ra.out) (Rb.out) (by decide) rfl (by decide) (by decide) (by decide) (by decide)).mono ?_
  rintro e W14 ⟨⟨gx, rfl, hg, hr⟩, hb⟩
  have hbx := hb
  replace RH := Lib.hid (show Has [⟨gx, 3, 2, fun i => .int .i64 (([5, 4] : List Int).getD i 0)⟩, ⟨gc, 41, 2, fun i => wn (([1, 2] : List Nat).getD i 0)⟩, ⟨gb, 41, 3, fun i => wn (([1, 1, 1] : List Nat).getD i 0)⟩, ⟨ga, 41, 1, fun i => wn (([5] : List Nat).getD i 0)⟩] W14 from .cons (hr.congr (fun i hi => fx_x i hi)) (RH.out.step hbx))
  replace HB := Lib.hid (HB.out.trans (hbx.mono HB.out.size))
  clear hbx hb
  clear hg hr Ra Rb
  go_wp2_with fail
  refine (line_any 5 _ _ _ _).mono ?_
  rintro e W15 ⟨rfl, hb⟩
  have hbx : Below W14.heap.size W14 W15 := Below.trans (show Below W14.heap.size W14 ((W14.alloc (.cells #[.int .i64 2, .int .i64 1, .int .i64 1, .slice (some ⟨gx, 0, none⟩) 2 2] 26)).alloc (.cells #[.int .i64 1, .int .i64 2, .int .i64 3, .int .i64 4, .int .i64 5] 3)) from (by repeat (first | assumption | exact Below.refl _ _ | refine below_drewN ?_ _ | refine Below.drew ?_ | refine Below.alloc ?_ (by first | (simp; done) | (simp; omega) | omega) _ | refine Below.setCell ?_ (by first | (simp; done) | (simp; omega) | omega) _))) (hb.mono (by first | (simp; done) | (simp; omega)))
  replace RH := Lib.hid (show Has [⟨W14.heap.size, 26, 4, v4 2 1 1 (.slice (some ⟨gx, 0, none⟩) 2 2)⟩, ⟨gx, 3, 2, fun i => .int .i64 (([5, 4] : List Int).getD i 0)⟩, ⟨gc, 41, 2, fun i => wn (([1, 2] : List Nat).getD i 0)⟩, ⟨gb, 41, 3, fun i => wn (([1, 1, 1] : List Nat).getD i 0)⟩, ⟨ga, 41, 1, fun i => wn (([5] : List Nat).getD i 0)⟩] W15 from .cons (((v4_row W14 2 1 1 (.slice (some ⟨gx, 0, none⟩) 2 2)).alloc (.cells #[.int .i64 1, .int .i64 2, .int .i64 3, .int .i64 4, .int .i64 5] 3)).of_block (hb.block _ (by first | (simp; done) | (simp; omega)))) (RH.out.step hbx))
  replace HB := Lib.hid (HB.out.trans (hbx.mono HB.out.size))
  clear hbx hb
  go_wp2_with fail
  refine (line_any 5 _ _ _ _).mono ?_
  rintro e W16 ⟨rfl, hb⟩
  have hbx := hb
  replace RH := Lib.hid (show Has [⟨W14.heap.size, 26, 4, v4 2 1 1 (.slice (some ⟨gx, 0, none⟩) 2 2)⟩, ⟨gx, 3, 2, fun i => .int .i64 (([5, 4] : List Int).getD i 0)⟩, ⟨gc, 41, 2, fun i => wn (([1, 2] : List Nat).getD i 0)⟩, ⟨gb, 41, 3, fun i => wn (([1, 1, 1] : List Nat).getD i 0)⟩, ⟨ga, 41, 1, fun i => wn (([5] : List Nat).getD i 0)⟩] W16 from RH.out.step hbx)
  replace HB := Lib.hid (HB.out.trans (hbx.mono HB.out.size))
  clear hbx hb
  go_wp2_with fail
  refine (fold_arg 5 1 1 5 1 1 _ _ _ (by decide) (by decide)).mono ?_
  rintro e W17 ⟨rfl, hb⟩
  have hbx := hb
  replace RH := Lib.hid (show Has [⟨W14.heap.size, 26, 4, v4 2 1 1 (.slice (some ⟨gx, 0, none⟩) 2 2)⟩, ⟨gx, 3, 2, fun i => .int .i64 (([5, 4] : List Int).getD i 0)⟩, ⟨gc, 41, 2, fun i => wn (([1, 2] : List Nat).getD i 0)⟩, ⟨gb, 41, 3, fun i => wn (([1, 1, 1] : List Nat).getD i 0)⟩, ⟨ga, 41, 1, fun i => wn (([5] : List Nat).getD i 0)⟩] W17 from RH.out.step hbx)
  replace HB := Lib.hid (HB.out.trans (hbx.mono HB.out.size))
  clear hbx hb
  go_wp2_with fail
  refine (line_any 2 _ _ _ _).mono ?_
  rintro e W18 ⟨rfl, hb⟩
  have Ra := Lib.hid ((lit_rdi W17 ([1, 2] : List Int)).below hb)
  have hbx : Below W17.heap.size W17 W18 := Below.trans (show Below W17.heap.size W17 (W17.alloc (.cells #[.int .i64 1, .int .i64 2] 3)) from (by repeat (first | assumption | exact Below.refl _ _ | refine below_drewN ?_ _ | refine Below.drew ?_ | refine Below.alloc ?_ (by first | (simp; done) | (simp; omega) | omega) _ | refine Below.setCell ?_ (by first | (simp; done) | (simp; omega) | omega) _))) (hb.mono (by first | (simp; done) | (simp; omega)))
  replace RH := Lib.hid (show Has [⟨W14.heap.size, 26, 4, v4 2 1 1 (.slice (some ⟨gx, 0, none⟩) 2 2)⟩, ⟨gx, 3, 2, fun i => .int .i64 (([5, 4] : List Int).getD i 0)⟩, ⟨gc, 41, 2, fun i => wn (([1, 2] : List Nat).getD i 0)⟩, ⟨gb, 41, 3, fun i => wn (([1, 1, 1] : List Nat).getD i 0)⟩, ⟨ga, 41, 1, fun i => wn (([5] : List Nat).getD i 0)⟩] W18 from RH.out.step hbx)
  replace HB := Lib.hid (HB.out.trans (hbx.mono HB.out.size))
  clear hbx hb
  go_wp2_with fail
  refine (fold_lits 2 1 1 1 2 1 2 2 2 2 (fun i => ([1, 2] : List Int).getD i 0) (fun i => ([1, 2] : List Int).getD i 0) _ _ _ 6 ((Ra.out.below (alloc_below _ _))) ((lit_rdi W18 ([1, 2] : List Int))) (by decide) (by decide) (by decide) (by decide) (by decide) (by decide) (by decide) (by decide) (by decide) (by decide) (by decide)).mono ?_
  rintro e W19 ⟨rfl, hb⟩
  have hbx : Below W18.heap.size W18 W19 := Below.trans (show Below W18.heap.size W18 (W18.alloc (.cells #[.int .i64 1, .int .i64 2] 3)) from (by repeat (first | assumption | exact Below.refl _ _ | refine below_drewN ?_ _ | refine Below.drew ?_ | refine Below.alloc ?_ (by first | (simp; done) | (simp; omega) | omega) _ | refine Below.setCell ?_ (by first | (simp; done) | (simp; omega) | omega) _))) (hb.mono (by first | (simp; done) | (simp; omega)))
  replace RH := Lib.hid (show Has [⟨W14.heap.size, 26, 4, v4 2 1 1 (.slice (some ⟨gx, 0, none⟩) 2 2)⟩, ⟨gx, 3, 2, fun i => .int .i64 (([5, 4] : List Int).getD i 0)⟩, ⟨gc, 41, 2, fun i => wn (([1, 2] : List Nat).getD i 0)⟩, ⟨gb, 41, 3, fun i => wn (([1, 1, 1] : List Nat).getD i 0)⟩, ⟨ga, 41, 1, fun i => wn (([5] : List Nat).getD i 0)⟩] W19 from RH.out.step hbx)
  replace HB := Lib.hid (HB.out.trans (hbx.mono HB.out.size))
  clear hbx hb
  clear Ra
  go_wp2_with fail
  refine (line_any 2 _ _ _ _).mono ?_
  rintro e W20 ⟨rfl, hb⟩
  have Ra := Lib.hid ((lit_rdi W19 ([1, 2, 3] : List Int)).below hb)
  have hbx : Below W19.heap.size W19 W20 := Below.trans (show Below W19.heap.size W19 (W19.alloc (.cells #[.int .i64 1, .int .i64 2, .int .i64 3] 3)) from (by repeat (first | assumption | exact Below.refl _ _ | refine below_drewN ?_ _ | refine Below.drew ?_ | refine Below.alloc ?_ (by first | (simp; done) | (simp; omega) | omega) _ | refine Below.setCell ?_ (by first | (simp; done) | (simp; omega) | omega) _))) (hb.mono (by first | (simp; done) | (simp; omega)))
  replace RH := Lib.hid (show Has [⟨W14.heap.size, 26, 4, v4 2 1 1 (.slice (some ⟨gx, 0, none⟩) 2 2)⟩, ⟨gx, 3, 2, fun i => .int .i64 (([5, 4] : List Int).getD i 0)⟩, ⟨gc, 41, 2, fun i => wn (([1, 2] : List Nat).getD i 0)⟩, ⟨gb, 41, 3, fun i => wn (([1, 1, 1] : List Nat).getD i 0)⟩, ⟨ga, 41, 1, fun i => wn (([5] : List Nat).getD i 0)⟩] W20 from RH.out.step hbx)
  replace HB := Lib.hid (HB.out.trans (hbx.mono HB.out.size))
  clear hbx hb
  go_wp2_with fail
  refine (line_any 2 _ _ _ _).mono ?_
  rintro e W21 ⟨rfl, hb⟩
  replace Ra := Lib.hid ((Ra.out.below (alloc_below W20 (.cells #[.int .i64 1, .int .i64 2] 3))).below hb)
  have Rb := Lib.hid ((lit_rdi W20 ([1, 2] : List Int)).below hb)
  have hbx : Below W20.heap.size W20 W21 := Below.trans (show Below W20.heap.size W20 (W20.alloc (.cells #[.int .i64 1, .int .i64 2] 3)) from (by repeat (first | assumption | exact Below.refl _ _ | refine below_drewN ?_ _ | refine Below.drew ?_ | refine Below.alloc ?_ (by first | (simp; done) | (simp; omega) | omega) _ | refine Below.setCell ?_ (by first | (simp; done) | (simp; omega) | omega) _))) (hb.mono (by first | (simp; done) | (simp; omega)))
  replace RH := Lib.hid (show Has [⟨W14.heap.size, 26, 4, v4 2 1 1 (.slice (some ⟨gx, 0, none⟩) 2 2)⟩, ⟨gx, 3, 2, fun i => .int .i64 (([5, 4] : List Int).getD i 0)⟩, ⟨gc, 41, 2, fun i => wn (([1, 2] : List Nat).getD i 0)⟩, ⟨gb, 41, 3, fun i => wn (([1, 1, 1] : List Nat).getD i 0)⟩, ⟨ga, 41, 1, fun i => wn (([5] : List Nat).getD i 0)⟩] W21 from RH.out.step hbx)
  replace HB := Lib.hid (HB.out.trans (hbx.mono HB.out.size))
  clear hbx hb
  go_wp2_with fail
  refine (fold_lits 2 1 1 2 1 1 3 2 3 2 (fun i => ([1, 2, 3] : List Int).getD i 0) (fun i => ([1, 2] : List Int).getD i 0) _ _ _ 3 (Ra.out) (Rb.out) (by decide) (by decide) (by decide) (by decide) (by decide) (by decide) (by decide) (by decide) (by decide) (by decide) (by decide)).mono ?_
  rintro e W22 ⟨rfl, hb⟩
  have hbx := hb
  replace RH := Lib.hid (show Has [⟨W14.heap.size, 26, 4, v4 2 1 1 (.slice (some ⟨gx, 0, none⟩) 2 2)⟩, ⟨gx, 3, 2, fun i => .int .i64 (([5, 4] : List Int).getD i 0)⟩, ⟨gc, 41, 2, fun i => wn (([1, 2] : List Nat).getD i 0)⟩, ⟨gb, 41, 3, fun i => wn (([1, 1, 1] : List Nat).getD i 0)⟩, ⟨ga, 41, 1, fun i => wn (([5] : List Nat).getD i 0)⟩] W22 from RH.out.step hbx)
  replace HB := Lib.hid (HB.out.trans (hbx.mono HB.out.size))
  clear hbx hb
  clear Ra Rb
  go_wp2_with fail
  refine (line_any 2 _ _ _ _).mono ?_
  rintro e W23 ⟨rfl, hb⟩
  have Ra := Lib.hid ((lit_rdi W22 ([1, 1048577] : List Int)).below hb)
  have hbx : Below W22.heap.size W22 W23 := Below.trans (show Below W22.heap.size W22 (W22.alloc (.cells #[.int .i64 1, .int .i64 1048577] 3)) from (by repeat (first | assumption | exact Below.refl _ _ | refine below_drewN ?_ _ | refine Below.drew ?_ | refine Below.alloc ?_ (by first | (simp; done) | (simp; omega) | omega) _ | refine Below.setCell ?_ (by first | (simp; done) | (simp; omega) | omega) _))) (hb.mono (by first | (simp; done) | (simp; omega)))
  replace RH := Lib.hid (show Has [⟨W14.heap.size, 26, 4, v4 2 1 1 (.slice (some ⟨gx, 0, none⟩) 2 2)⟩, ⟨gx, 3, 2, fun i => .int .i64 (([5, 4] : List Int).getD i 0)⟩, ⟨gc, 41, 2, fun i => wn (([1, 2] : List Nat).getD i 0)⟩, ⟨gb, 41, 3, fun i => wn (([1, 1, 1] : List Nat).getD i 0)⟩, ⟨ga, 41, 1, fun i => wn (([5] : List Nat).getD i 0)⟩] W23 from RH.out.step hbx)
  replace HB := Lib.hid (HB.out.trans (hbx.mono HB.out.size))
  clear hbx hb
  go_wp2_with fail
  refine (line_any 2 _ _ _ _).mono ?_
  rintro e W24 ⟨rfl, hb⟩
  replace Ra := Lib.hid ((Ra.out.below (alloc_below W23 (.cells #[.int .i64 1, .int .i64 2] 3))).below hb)
  have Rb := Lib.hid ((lit_rdi W23 ([1, 2] : List Int)).below hb)
  have hbx : Below W23.heap.size W23 W24 := Below.trans (show Below W23.heap.size W23 (W23.alloc (.cells #[.int .i64 1, .int .i64 2] 3)) from (by repeat (first | assumption | exact Below.refl _ _ | refine below_drewN ?_ _ | refine Below.drew ?_ | refine Below.alloc ?_ (by first | (simp; done) | (simp; omega) | omega) _ | refine Below.setCell ?_ (by first | (simp; done) | (simp; omega) | omega) _))) (hb.mono (by first | (simp; done) | (simp; omega)))
  replace RH := Lib.hid (show Has [⟨W14.heap.size, 26, 4, v4 2 1 1 (.slice (some ⟨gx, 0, none⟩) 2 2)⟩, ⟨gx, 3, 2, fun i => .int .i64 (([5, 4] : List Int).getD i 0)⟩, ⟨gc, 41, 2, fun i => wn (([1, 2] : List Nat).getD i 0)⟩, ⟨gb, 41, 3, fun i => wn (([1, 1, 1] : List Nat).getD i 0)⟩, ⟨ga, 41, 1, fun i => wn (([5] : List Nat).getD i 0)⟩] W24 from RH.out.step hbx)
  replace HB := Lib.hid (HB.out.trans (hbx.mono HB.out.size))
  clear hbx hb
  go_wp2_with fail
  refine (fold_lits 2 1 1 2 1 1 2 2 1 2 (fun i => ([1, 1048577] : List Int).getD i 0) (fun i => ([1, 2] : List Int).getD i 0) _ _ _ 4 (Ra.out) (Rb.out) (by decide) (by decide) (by decide) (by decide) (by decide) (by decide) (by decide) (by decide) (by decide) (by decide) (by decide)).mono ?_
  rintro e W25 ⟨rfl, hb⟩
  have hbx := hb
  replace RH := Lib.hid (show Has [⟨W14.heap.size, 26, 4, v4 2 1 1 (.slice (some ⟨gx, 0, none⟩) 2 2)⟩, ⟨gx, 3, 2, fun i => .int .i64 (([5, 4] : List Int).getD i 0)⟩, ⟨gc, 41, 2, fun i => wn (([1, 2] : List Nat).getD i 0)⟩, ⟨gb, 41, 3, fun i => wn (([1, 1, 1] : List Nat).getD i 0)⟩, ⟨ga, 41, 1, fun i => wn (([5] : List Nat).getD i 0)⟩] W25 from RH.out.step hbx)
  replace HB := Lib.hid (HB.out.trans (hbx.mono HB.out.size))
  clear hbx hb
  clear Ra Rb
  go_wp2_with fail
  refine (line_any 2 _ _ _ _).mono ?_
  rintro e W26 ⟨rfl, hb⟩
  have Ra := Lib.hid ((lit_rdi W25 ([1, 1048577] : List Int)).below hb)
  have hbx : Below W25.heap.size W25 W26 := Below.trans (show Below W25.heap.size W25 (W25.alloc (.cells #[.int .i64 1, .int .i64 1048577] 3)) from (by repeat (first | assumption | exact Below.refl _ _ | refine below_drewN ?_ _ | refine Below.drew ?_ | refine Below.alloc ?_ (by first | (simp; done) | (simp; omega) | omega) _ | refine Below.setCell ?_ (by first | (simp; done) | (simp; omega) | omega) _))) (hb.mono (by first | (simp; done) | (simp; omega)))
  replace RH := Lib.hid (show Has [⟨W14.heap.size, 26, 4, v4 2 1 1 (.slice (some ⟨gx, 0, none⟩) 2 2)⟩, ⟨gx, 3, 2, fun i => .int .i64 (([5, 4] : List Int).getD i 0)⟩, ⟨gc, 41, 2, fun i => wn (([1, 2] : List Nat).getD i 0)⟩, ⟨gb, 41, 3, fun i => wn (([1, 1, 1] : List Nat).getD i 0)⟩, ⟨ga, 41, 1, fun i => wn (([5] : List Nat).getD i 0)⟩] W26 from RH.out.step hbx)
  replace HB := Lib.hid (HB.out.trans (hbx.mono HB.out.size))
  clear hbx hb
  go_wp2_with fail
  refine (line_any 1 _ _ _ _).mono ?_
  rintro e W27 ⟨rfl, hb⟩
  replace Ra := Lib.hid ((Ra.out.below (alloc_below W26 (.cells #[.int .i64 1] 3))).below hb)
  have Rb := Lib.hid ((lit_rdi W26 ([1] : List Int)).below hb)
  have hbx : Below W26.heap.size W26 W27 := Below.trans (show Below W26.heap.size W26 (W26.alloc (.cells #[.int .i64 1] 3)) from (by repeat (first | assumption | exact Below.refl _ _ | refine below_drewN ?_ _ | refine Below.drew ?_ | refine Below.alloc ?_ (by first | (simp; done) | (simp; omega) | omega) _ | refine Below.setCell ?_ (by first | (simp; done) | (simp; omega) | omega) _))) (hb.mono (by first | (simp; done) | (simp; omega)))
  replace RH := Lib.hid (show Has [⟨W14.heap.size, 26, 4, v4 2 1 1 (.slice (some ⟨gx, 0, none⟩) 2 2)⟩, ⟨gx, 3, 2, fun i => .int .i64 (([5, 4] : List Int).getD i 0)⟩, ⟨gc, 41, 2, fun i => wn (([1, 2] : List Nat).getD i 0)⟩, ⟨gb, 41, 3, fun i => wn (([1, 1, 1] : List Nat).getD i 0)⟩, ⟨ga, 41, 1, fun i => wn (([5] : List Nat).getD i 0)⟩] W27 from RH.out.step hbx)
  replace HB := Lib.hid (HB.out.trans (hbx.mono HB.out.size))
  clear hbx hb
  go_wp2_with fail
  refine (fold_lits 2 1 1 1 1 1 2 1 1 1 (fun i => ([1, 1048577] : List Int).getD i 0) (fun i => ([1] : List Int).getD i 0) _ _ _ 4 (Ra.out) (Rb.out) (by decide) (by decide) (by decide) (by decide) (by decide) (by decide) (by decide) (by decide) (by decide) (by decide) (by decide)).mono ?_
  rintro e W28 ⟨rfl, hb⟩
  have hbx := hb
  replace RH := Lib.hid (show Has [⟨W14.heap.size, 26, 4, v4 2 1 1 (.slice (some ⟨gx, 0, none⟩) 2 2)⟩, ⟨gx, 3, 2, fun i => .int .i64 (([5, 4] : List Int).getD i 0)⟩, ⟨gc, 41, 2, fun i => wn (([1, 2] : List Nat).getD i 0)⟩, ⟨gb, 41, 3, fun i => wn (([1, 1, 1] : List Nat).getD i 0)⟩, ⟨ga, 41, 1, fun i => wn (([5] : List Nat).getD i 0)⟩] W28 from RH.out.step hbx)
  replace HB := Lib.hid (HB.out.trans (hbx.mono HB.out.size))
  clear hbx hb
  clear Ra Rb
  go_wp2_with fail
  refine (line_any 2 _ _ _ _).mono ?_
  rintro e W29 ⟨rfl, hb⟩
  have Rb := Lib.hid ((lit_rdi W28 ([1, 2] : List Int)).below hb)
  have hbx : Below W28.heap.size W28 W29 := Below.trans (show Below W28.heap.size W28 (W28.alloc (.cells #[.int .i64 1, .int .i64 2] 3)) from (by repeat (first | assumption | exact Below.refl _ _ | refine below_drewN ?_ _ | refine Below.drew ?_ | refine Below.alloc ?_ (by first | (simp; done) | (simp; omega) | omega) _ | refine Below.setCell ?_ (by first | (simp; done) | (simp; omega) | omega) _))) (hb.mono (by first | (simp; done) | (simp; omega)))
  replace RH := Lib.hid (show Has [⟨W14.heap.size, 26, 4, v4 2 1 1 (.slice (some ⟨gx, 0, none⟩) 2 2)⟩, ⟨gx, 3, 2, fun i => .int .i64 (([5, 4] : List Int).getD i 0)⟩, ⟨gc, 41, 2, fun i => wn (([1, 2] : List Nat).getD i 0)⟩, ⟨gb, 41, 3, fun i => wn (([1, 1, 1] : List Nat).getD i 0)⟩, ⟨ga, 41, 1, fun i => wn (([5] : List Nat).getD i 0)⟩] W29 from RH.out.step hbx)
  replace HB := Lib.hid (HB.out.trans (hbx.mono HB.out.size))
  clear hbx hb
  go_wp2_with fail
  refine (fold_lits 192 192 192 2 1 1 0 2 0 2 (fun i => ([] : List Int).getD i 0) (fun i => ([1, 2] : List Int).getD i 0) _ _ _ 2 (rd_nil _ _) (Rb.out) (by decide) (by decide) (by decide) (by decide) (by decide) (by decide) (by decide) (by decide) (by decide) (by decide) (by decide)).mono ?_
  rintro e W30 ⟨rfl, hb⟩
  have hbx := hb
  replace RH := Lib.hid (show Has [⟨W14.heap.size, 26, 4, v4 2 1 1 (.slice (some ⟨gx, 0, none⟩) 2 2)⟩, ⟨gx, 3, 2, fun i => .int .i64 (([5, 4] : List Int).getD i 0)⟩, ⟨gc, 41, 2, fun i => wn (([1, 2] : List Nat).getD i 0)⟩, ⟨gb, 41, 3, fun i => wn (([1, 1, 1] : List Nat).getD i 0)⟩, ⟨ga, 41, 1, fun i => wn (([5] : List Nat).getD i 0)⟩] W30 from RH.out.step hbx)
  replace HB := Lib.hid (HB.out.trans (hbx.mono HB.out.size))
  clear hbx hb
  clear Rb
  go_wp2_with fail
  have x0 : W30.cell? ⟨W14.heap.size, 0, none⟩ = some (.int .i64 2) := (show World.rowIs W30 (W14.heap.size) 26 (4) (v4 2 1 1 (.slice (some ⟨gx, 0, none⟩) 2 2)) from RH.out.one 0 (by simp)).cell (i := 0) (show 0 < 4 by first | decide | assumption | omega)
  have x1 : W30.cell? ⟨W14.heap.size, 1, none⟩ = some (.int .i64 1) := (show World.rowIs W30 (W14.heap.size) 26 (4) (v4 2 1 1 (.slice (some ⟨gx, 0, none⟩) 2 2)) from RH.out.one 0 (by simp)).cell (i := 1) (show 1 < 4 by first | decide | assumption | omega)
  have x2 : W30.cell? ⟨W14.heap.size, 2, none⟩ = some (.int .i64 1) := (show World.rowIs W30 (W14.heap.size) 26 (4) (v4 2 1 1 (.slice (some ⟨gx, 0, none⟩) 2 2)) from RH.out.one 0 (by simp)).cell (i := 2) (show 2 < 4 by first | decide | assumption | omega)
  have x3 : W30.cell? ⟨W14.heap.size, 3, none⟩ = some (.slice (some ⟨gx, 0, none⟩) 2 2) := (show World.rowIs W30 (W14.heap.size) 26 (4) (v4 2 1 1 (.slice (some ⟨gx, 0, none⟩) 2 2)) from RH.out.one 0 (by simp)).cell (i := 3) (show 3 < 4 by first | decide | assumption | omega)
  have lx : W14.heap.size < W30.heap.size := (show World.rowIs W30 (W14.heap.size) 26 (4) (v4 2 1 1 (.slice (some ⟨gx, 0, none⟩) 2 2)) from RH.out.one 0 (by simp)).lt
  have RX := Lib.hid (rd_row (show World.rowIs W30 (gx) 3 (2) (fun i => .int .i64 (([5, 4] : List Int).getD i 0)) from RH.out.one 1 (by simp)))
  go_region_held3 (fun w' => Below W30.heap.size W30 w' ∧ ∀ b o, b < W30.heap.size → w'.cell? ⟨b, o, none⟩ = W30.cell? ⟨b, o, none⟩) ((first | assumption | exact ⟨by assumption, by assumption⟩ | exact sb_of (by (repeat (first | assumption | exact And.left (by assumption) | exact Below.refl _ _ | refine below_drewN ?_ _ | refine Below.setCell ?_ (by first | (simp; done) | omega | (simp; omega)) _ | refine Below.alloc ?_ (by first | (simp; done) | omega | (simp; omega)) _ | refine Below.drew ?_))))) (first | (go_at_call 31; refine (line_any 2 _ _ _ _).mono ?_; rintro e wa ⟨rfl, hba⟩; have hsa := sb_call (Wc := W30) (by (repeat (first | assumption | exact And.left (by assumption) | exact Below.refl _ _ | refine below_drewN ?_ _ | refine Below.setCell ?_ (by first | (simp; done) | omega | (simp; omega)) _ | refine Below.alloc ?_ (by first | (simp; done) | omega | (simp; omega)) _ | refine Below.drew ?_))) hba; have hla := hsa.1.size; have hka := hsa.2) | (go_at_call 17; refine (same_counts (n := 2) (V := fun i => ([5, 4] : List Int).getD i 0) (RX.out.below hsa.1) ((show Rd ((W30.alloc (.cells #[.int .i64 5, .int .i64 4] 3)).drew) _ 2 (fun i => .int .i64 (([5, 4] : List Int).getD i 0)) from lit_rdi W30 [5, 4]).below hba) (by decide)).mono ?_; rintro e wb ⟨rfl, hbb⟩; have hsb := sb_call (Wc := W30) (by (repeat (first | assumption | exact And.left (by assumption) | exact Below.refl _ _ | refine below_drewN ?_ _ | refine Below.setCell ?_ (by first | (simp; done) | omega | (simp; omega)) _ | refine Below.alloc ?_ (by first | (simp; done) | omega | (simp; omega)) _ | refine Below.drew ?_))) hbb))
  refine then_abs (fun X => Below w.heap.size w X) (HB.out.trans (hsb.1.mono HB.out.size)) ?_
  intro Z0 hZ
  clear x0 x1 x2 x3 lx RX RH HB hsa hla hka hsb hba hbb
  have HB := Lib.hid hZ
  clear hZ
  simp only [Exit.then]
  have hmk : ∀ w, (Instr.makeSlice 24 (.int .i64 192) (.int .i64 192)).run Try.prog w = .ok (.slice (some ⟨w.heap.size, 0, none⟩) 192 192) (w.alloc (.cells (madeCells #[.int .i64 0] 192) 3)) := mk24 192 (by decide)
  go_wp2
  obtain ⟨N0, eN0⟩ : ∃ n, n = Z0.heap.size := ⟨_, rfl⟩
  have EN0 := Lib.hid eN0; clear eN0
  apply meet
  case a =>
    intro KEY
    go_region_held3 (fun _ => True) (trivial) (fail)
    · refine then_abs (fun X => Has [⟨Z0.heap.size, 3, 192, fun _ => .int .i64 0⟩, ⟨Z0.heap.size + 1, 3, 192, fun _ => .int .i64 0⟩] X ∧ Below w.heap.size w X ∧ N0 ≤ Z0.heap.size ∧ N0 ≤ Z0.heap.size + 1 ∧ Z0.heap.size ≠ Z0.heap.size + 1) ⟨.cons (((Z0.rowIs_made (.int .i64 0) 192 3).alloc _).drew) (.cons ((show World.rowIs (((Z0.alloc (.cells (madeCells #[.int .i64 0] 192) 3)).alloc (.cells (madeCells #[.int .i64 0] 192) 3)).drew) (Z0.heap.size + 1) 3 192 (fun _ => .int .i64 0) by
          have := (Z0.alloc (.cells (madeCells #[.int .i64 0] 192) 3)).rowIs_made (.int .i64 0) 192 3
          simp only [World.size_alloc] at this
          exact this.drew)) (.nil _)), HB.out.trans (Below.mono (show Below Z0.heap.size Z0 (((Z0.alloc (.cells (madeCells #[.int .i64 0] 192) 3)).alloc (.cells (madeCells #[.int .i64 0] 192) 3)).drew) from (by repeat (first | assumption | exact Below.refl _ _ | refine below_drewN ?_ _ | refine Below.drew ?_ | refine Below.alloc ?_ (by first | (simp; done) | (simp; omega) | omega) _ | refine Below.setCell ?_ (by first | (simp; done) | (simp; omega) | omega) _))) HB.out.size), by rw [EN0.out]; omega, by rw [EN0.out]; omega, by omega⟩ ?_
      generalize Z0.heap.size + 1 = gh
      generalize Z0.heap.size = gl
      revert gl
      revert gh
      exact KEY.out
    · refine then_abs (fun X => Has [⟨Z0.heap.size + 1, 3, 192, fun _ => .int .i64 0⟩, ⟨Z0.heap.size, 3, 192, fun _ => .int .i64 0⟩] X ∧ Below w.heap.size w X ∧ N0 ≤ Z0.heap.size + 1 ∧ N0 ≤ Z0.heap.size ∧ Z0.heap.size + 1 ≠ Z0.heap.size) ⟨.cons ((show World.rowIs (((Z0.alloc (.cells (madeCells #[.int .i64 0] 192) 3)).alloc (.cells (madeCells #[.int .i64 0] 192) 3)).drew) (Z0.heap.size + 1) 3 192 (fun _ => .int .i64 0) by
          have := (Z0.alloc (.cells (madeCells #[.int .i64 0] 192) 3)).rowIs_made (.int .i64 0) 192 3
          simp only [World.size_alloc] at this
          exact this.drew)) (.cons (((Z0.rowIs_made (.int .i64 0) 192 3).alloc _).drew) (.nil _)), HB.out.trans (Below.mono (show Below Z0.heap.size Z0 (((Z0.alloc (.cells (madeCells #[.int .i64 0] 192) 3)).alloc (.cells (madeCells #[.int .i64 0] 192) 3)).drew) from (by repeat (first | assumption | exact Below.refl _ _ | refine below_drewN ?_ _ | refine Below.drew ?_ | refine Below.alloc ?_ (by first | (simp; done) | (simp; omega) | omega) _ | refine Below.setCell ?_ (by first | (simp; done) | (simp; omega) | omega) _))) HB.out.size), by rw [EN0.out]; omega, by rw [EN0.out]; omega, by omega⟩ ?_
      generalize Z0.heap.size + 1 = gl
      generalize Z0.heap.size = gh
      revert gl
      revert gh
      exact KEY.out
  case b =>
    intro gh gl X hX
    obtain ⟨h1, h2, hnl, hnh, hne⟩ := hX
    have RH := Lib.hid h1
    have HB0 := HB
    clear HB
    have HB := Lib.hid h2
    have hw0 : w.heap.size ≤ N0 := by rw [EN0.out]; exact HB0.out.size
    clear h1 h2 hmk HB0
    simp only [Exit.then]
    go_wp2
    go_loopw [268] (fun y wr => ∃ j : Nat, j ≤ 192 ∧ y = .int .i64 j ∧ Has [⟨gl, 3, 192, upZ j (fun _ => -1048576)⟩, ⟨gh, 3, 192, upZ j (fun _ => 1048576)⟩] wr ∧ Below w.heap.size w wr) (fun y _ => 192 - (RowKit.intOf y).toNat)
    case atStart => exact ⟨0, Nat.zero_le _, rfl, .cons ((RH.out.one 0 (by simp)).congr (fun i _ => rfl)) (.cons ((RH.out.one 1 (by simp)).congr (fun i _ => rfl)) (.nil _)), HB.out⟩
    case round =>
      obtain ⟨j, hj, rfl, hrh, hb⟩ := hrel
      clear RH HB
      by_cases hjl : j < 192
      · have hjn : (j : Int) < 192 := by omega
        have ra := (show World.rowIs wr gl 3 192 (upZ j (fun _ => -1048576)) from hrh.one 0 (by simp))
        have rb := (show World.rowIs wr gh 3 192 (upZ j (fun _ => 1048576)) from hrh.one 1 (by simp))
        have ca : wr.cell? ⟨gl, j, none⟩ = some (upZ j (fun _ => -1048576) j) := ra.cell hjl
        have cb : wr.cell? ⟨gh, j, none⟩ = some (upZ j (fun _ => 1048576) j) := rb.cell hjl
        have fa : wr.frozen? ⟨gl, j, none⟩ = false := ra.frozen j
        have fb : wr.frozen? ⟨gh, j, none⟩ = false := rb.frozen j
        have la := ra.lt; have lb := rb.lt
        have HA := Lib.hid ra; have HBR := Lib.hid rb; have HBB := Lib.hid hb
        clear ra rb hrh hb
        go_wp2
        go_roundw
        case rel => exact ⟨j + 1, by omega, by go_num, .cons ((upZ_step HA.out _ rfl).setOther hne _) (.cons (upZ_step (HBR.out.setOther (Ne.symm hne) _) _ rfl) (.nil _)), (HBB.out.setCell (by simp only; omega) _).setCell (by simp only; omega) _⟩
        case measure => simp [RowKit.intOf]; omega
      · have hj2 : j = 192 := by omega
        have RL := Lib.hid ((show World.rowIs wr gl 3 192 (upZ j (fun _ => -1048576)) from hrh.one 0 (by simp)).congr (g := fun _ => .int .i64 (-1048576)) (fun i hi => if_pos (by omega)))
        have RR := Lib.hid ((show World.rowIs wr gh 3 192 (upZ j (fun _ => 1048576)) from hrh.one 1 (by simp)).congr (g := fun _ => .int .i64 1048576) (fun i hi => if_pos (by omega)))
        have HB := Lib.hid hb
        clear hrh hb hj2
        go_wp2_with fail
        refine (Fold_ok 1 192 1 192 gl 0 192 gh 0 192 (fun _ => -1048576) (fun _ => 1048576) _ (by decide) rfl (by decide) RL.out.lt RR.out.lt (fun i hi => by rw [Nat.zero_add]; exact RL.out.cell hi) (fun _ _ => by decide) (fun i hi => by rw [Nat.zero_add]; exact RR.out.cell hi) (fun _ _ => by decide)).mono ?_
        rintro e Y ⟨⟨gy, rfl, hg, hr⟩, hby⟩
        have HY := Lib.hid (HB.out.trans (hby.mono HB.out.size))
        have RY := Lib.hid (hr.congr (g := fun _ => .int .i64 (-211106232532992)) (fun i hi => congrArg _ (fx_y i hi)))
        clear hr hg hby
        go_wp2
        refine wp_abs (fun X => (X.rowIs gy 3 192 (fun _ => .int .i64 (-211106232532992))) ∧ Below w.heap.size w X) ⟨RY.out.alloc _, HY.out.trans (Below.mono (alloc_below Y _) HY.out.size)⟩ ?_
        intro Y2 hX
        have RZ := Lib.hid hX.1; have HZ := Lib.hid hX.2
        clear hX RY HY RL RR HB
        go_loopw [299] (fun y wr => ∃ j : Nat, j ≤ 192 ∧ y = .int .i64 j ∧ wr.rowIs gy 3 192 (fun _ => .int .i64 (-211106232532992)) ∧ Below w.heap.size w wr) (fun y _ => 192 - (RowKit.intOf y).toNat)
        case atStart => exact ⟨0, Nat.zero_le _, rfl, RZ.out, HZ.out⟩
        case round =>
          obtain ⟨j, hj, rfl, hr, hb⟩ := hrel
          clear RZ HZ
          by_cases hjl : j < 192
          · have hjn : (j : Int) < 192 := by omega
            have cy : wr.cell? ⟨gy, j, none⟩ = some (.int .i64 (-211106232532992)) := hr.cell hjl
            have HR := Lib.hid hr; have HBB := Lib.hid hb
            clear hr hb
            go_wp2
            go_roundw
            case rel => exact ⟨j + 1, by omega, by go_num, HR.out, HBB.out⟩
            case measure => simp [RowKit.intOf]; omega
          · have HBB := Lib.hid hb
            clear hr hb
            go_wp2
            go_ret
            exact ⟨rfl, HBB.out⟩

end Go.Proofs.Ytjmhnmlmnlefaaa
