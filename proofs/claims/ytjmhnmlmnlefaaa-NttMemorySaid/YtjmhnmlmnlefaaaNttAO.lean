/-
  The law NttMemory.
-/
import Derived.Test.YtjmhnmlmnlefaaaNttAN
namespace Go.Proofs.Ytjmhnmlmnlefaaa
open Go.RowKit Go.Lib
attribute [local irreducible] World.setCell
set_option linter.unusedSimpArgs false
set_option linter.unusedVariables false


theorem alloc_below (W : World) (o : Obj) : Below W.heap.size W (W.alloc o) := (Below.refl _ _).alloc (Nat.le_refl _) o
theorem mlen {K : Nat} (h : K ≤ 192) : K + 2 ≤ maxLen := by unfold maxLen; omega
theorem mbytes {K : Nat} (h : K ≤ 192) : (K + 2) * 8 ≤ 140737488355328 := by omega
theorem info_one41 : (Try.prog.info? 41).map (·.size) = some 1 := by kernel_rfl
theorem info_one3 : (Try.prog.info? 3).map (·.size) = some 1 := by kernel_rfl
set_option maxHeartbeats 16000000 in
set_option maxRecDepth 100000 in
theorem memory_any {n0 n1 n2 : Int} {v s : Value} {n len : Nat} {X : Nat → Nat} {V : Nat → Int} {w : World} (hX : Rd w v n (fun i => wn (X i))) (hA : Rd w s len (fun i => .int .i64 (V i))) (hn : n ≤ 17592186044416) (hlen : len ≤ 17592186044416) :
    Calls Try.prog 10 #[v, .agg #[.int .i64 n0, .int .i64 n1, .int .i64 n2, s]] w fun e w' => e = .returned (.bool true) ∧ Below w.heap.size w w' := by
  obtain ⟨i0, HI0⟩ : ∃ i0, Hid (Try.prog.info? 41 = some i0 ∧ i0.size = 1 ∧ i0.zero = some (.int .u64 0) ∧ i0.bytes = 8) := by obtain ⟨i0, h0, h2, h1, h3⟩ := info_parts info41; exact ⟨i0, Lib.hid ⟨h0, h1, h2, h3⟩⟩
  obtain ⟨i1, HI1⟩ : ∃ i0, Hid (Try.prog.info? 3 = some i0 ∧ i0.size = 1 ∧ i0.zero = some (.int .i64 0) ∧ i0.bytes = 8) := by obtain ⟨i0, h0, h2, h1, h3⟩ := info_parts info3'; exact ⟨i0, Lib.hid ⟨h0, h1, h2, h3⟩⟩
  obtain ⟨c, K, f, g, hK, hla⟩ := lists_all n X
  obtain ⟨p0, p1, p2, fc, KF, Z, fb, hKF, hfa⟩ := fold_all n0 n1 n2 len V hlen
  have HLA := Lib.hid hla; have HFA := Lib.hid hfa
  have RX := Lib.hid (fun w' (hb : Below w.heap.size w w') => hX.below hb)
  have RA := Lib.hid (fun w' (hb : Below w.heap.size w w') => hA.below hb)
  have hni : (n : Int) ≤ 17592186044416 := by omega
  have hli : (len : Int) ≤ 17592186044416 := by omega
  obtain ⟨xa, xc, rfl, _⟩ := hX
  obtain ⟨aa, ac, rfl, _⟩ := hA
  clear hla hfa
  go_enter Try.func10, Try.ntmps10
  go_wp2_with fail
  refine (awake_any _).mono ?_
  rintro e W1 ⟨rfl, hb1⟩
  have RH := Lib.hid (show Has [⟨w.heap.size, 26, 4, v4i n0 n1 n2 (.slice aa len ac)⟩] W1 from .cons ((v4i_row w n0 n1 n2 (.slice aa len ac)).of_block (hb1.block _ (by simp))) (.nil _))
  have HB := Lib.hid (show Below w.heap.size w W1 from Below.trans (show Below w.heap.size w (w.alloc (.cells #[.int .i64 n0, .int .i64 n1, .int .i64 n2, .slice aa len ac] 26)) from (by repeat (first | assumption | exact Below.refl _ _ | refine below_drewN ?_ _ | refine Below.drew ?_ | refine Below.alloc ?_ (by first | (simp; done) | (simp; omega) | omega) _ | refine Below.setCell ?_ (by first | (simp; done) | (simp; omega) | omega) _))) (hb1.mono (by simp)))
  clear hb1
  have a0 : W1.cell? ⟨w.heap.size, 0, none⟩ = some (.int .i64 n0) := (show World.rowIs W1 (w.heap.size) 26 (4) (v4i n0 n1 n2 (.slice aa len ac)) from RH.out.one 0 (by simp)).cell (i := 0) (show 0 < 4 by first | decide | assumption | omega)
  have a1 : W1.cell? ⟨w.heap.size, 1, none⟩ = some (.int .i64 n1) := (show World.rowIs W1 (w.heap.size) 26 (4) (v4i n0 n1 n2 (.slice aa len ac)) from RH.out.one 0 (by simp)).cell (i := 1) (show 1 < 4 by first | decide | assumption | omega)
  have a2 : W1.cell? ⟨w.heap.size, 2, none⟩ = some (.int .i64 n2) := (show World.rowIs W1 (w.heap.size) 26 (4) (v4i n0 n1 n2 (.slice aa len ac)) from RH.out.one 0 (by simp)).cell (i := 2) (show 2 < 4 by first | decide | assumption | omega)
  have a3 : W1.cell? ⟨w.heap.size, 3, none⟩ = some (.slice aa len ac) := (show World.rowIs W1 (w.heap.size) 26 (4) (v4i n0 n1 n2 (.slice aa len ac)) from RH.out.one 0 (by simp)).cell (i := 3) (show 3 < 4 by first | decide | assumption | omega)
  have la : w.heap.size < W1.heap.size := (show World.rowIs W1 (w.heap.size) 26 (4) (v4i n0 n1 n2 (.slice aa len ac)) from RH.out.one 0 (by simp)).lt
  go_wp2_with fail
  refine (HFA.out _ _ (RA.out _ HB.out)).2.mono ?_
  rintro e W2 ⟨rfl, hb2⟩
  clear a0 a1 a2 a3 la
  have hbx := hb2
  replace RH := Lib.hid (show Has [⟨w.heap.size, 26, 4, v4i n0 n1 n2 (.slice aa len ac)⟩] W2 from RH.out.step hbx)
  replace HB := Lib.hid (HB.out.trans (hbx.mono HB.out.size))
  clear hbx hb2
  have hw2 := HB.out.size
  have hwl : w.heap.size < W2.heap.size := (show World.rowIs W2 (w.heap.size) 26 (4) (v4i n0 n1 n2 (.slice aa len ac)) from RH.out.one 0 (by simp)).lt
  cases fb
  · go_wp2
    go_ret
    exact ⟨rfl, HB.out⟩
  have hmk := mk_spare 40 41 (.int .u64 0) Try.underlying40 info41' rfl n hn
  go_wp2_with (first | (refine wpList_copy_splice rfl (.tmp 46) (.tmp 47) 40 40 rfl 41 Try.underlying40 info_one41 (some ⟨W2.heap.size, 0, none⟩) xa n (n + 1) n xc rfl rfl W2.heap.size 0 (List.replicate (n + 1) (.int .u64 0)) 41 (made_block W2 _ _ _) (LV n (fun i => wn (X i))) (LVmin _ _) (LVpos (RX.out _ HB.out) _) (LVfit _ _ _) (LVone (fun _ => rfl)) W2.heap.size W2 (alloc_below _ _) (Nat.le_refl _) ?_; intro W3 hg hb; have RC := Lib.hid (copied hg.out); have HC := Lib.hid hb; clear hg hb hmk) | (refine wpList_append_fits _ rfl (.tmp 49) (.tmp 50) 40 rfl W2.heap.size 41 i0 1 Try.underlying40 HI0.out.1 HI0.out.2.1 W2.heap.size n (n + 1) (LV n (fun i => wn (X i))) rfl (owns_cut RC.out _ hn) ⟨W3.heap.size, 0, none⟩ 1 1 [.int .u64 41] rfl rfl (lit1 _ _ _) (one1 rfl) (Nat.le_refl _) ?_; intro W4 hown hgr; have hbx := grown_below HC.out hgr; replace RH := Lib.hid (show Has [⟨W2.heap.size, 41, n + 1, fun i => if i < n then (fun i => wn (X i)) i else .int .u64 41⟩, ⟨w.heap.size, 26, 4, v4i n0 n1 n2 (.slice aa len ac)⟩] W4 from .cons (owns_row hown) (RH.out.step hbx)); replace HB := Lib.hid (HB.out.trans (hbx.mono HB.out.size)); have hsl := hbx.size; have hll : W2.heap.size < W4.heap.size := (show World.rowIs W4 (W2.heap.size) 41 (n + 1) (fun i => if i < n then (fun i => wn (X i)) i else .int .u64 41) from RH.out.one 0 (by simp)).lt; clear hbx hown hgr RC HC; have hmk := mk_spare 24 3 (.int .i64 0) Try.underlying24 info3' rfl len hlen; have a3 : W4.cell? ⟨w.heap.size, 3, none⟩ = some (.slice aa len ac) := (show World.rowIs W4 w.heap.size 26 4 (v4i n0 n1 n2 (.slice aa len ac)) from RH.out.one 1 (by simp)).cell (i := 3) (by decide); have la : w.heap.size < W4.heap.size := (show World.rowIs W4 w.heap.size 26 4 (v4i n0 n1 n2 (.slice aa len ac)) from RH.out.one 1 (by simp)).lt) | (refine wpList_copy_splice rfl (.tmp 60) (.tmp 62) 24 24 rfl 3 Try.underlying24 info_one3 (some ⟨W4.heap.size, 0, none⟩) aa len (len + 1) len ac rfl rfl W4.heap.size 0 (List.replicate (len + 1) (.int .i64 0)) 3 (made_block W4 _ _ _) (LV len (fun i => .int .i64 (V i))) (LVmin _ _) (LVpos (RA.out _ HB.out) _) (LVfit _ _ _) (LVone (fun _ => rfl)) W4.heap.size W4 (alloc_below _ _) (Nat.le_refl _) ?_; intro W5 hg hb; have RC := Lib.hid (copied hg.out); have HC := Lib.hid hb; clear hg hb hmk) | (refine wpList_append_fits _ rfl (.tmp 64) (.tmp 65) 24 rfl W4.heap.size 3 i1 1 Try.underlying24 HI1.out.1 HI1.out.2.1 W4.heap.size len (len + 1) (LV len (fun i => .int .i64 (V i))) rfl (owns_cut RC.out _ hlen) ⟨W5.heap.size, 0, none⟩ 1 1 [.int .i64 42] rfl rfl (lit1 _ _ _) (one1 rfl) (Nat.le_refl _) ?_; intro W6 hown hgr; have hbx := grown_below HC.out hgr; replace RH := Lib.hid (show Has [⟨W4.heap.size, 3, len + 1, fun i => if i < len then (fun i => .int .i64 (V i)) i else .int .i64 42⟩, ⟨W2.heap.size, 41, n + 1, fun i => if i < n then (fun i => wn (X i)) i else .int .u64 41⟩, ⟨w.heap.size, 26, 4, v4i n0 n1 n2 (.slice aa len ac)⟩] W6 from .cons (owns_row hown) (RH.out.step hbx)); replace HB := Lib.hid (HB.out.trans (hbx.mono HB.out.size)); have hsv := hbx.size; have hlv : W4.heap.size < W6.heap.size := (show World.rowIs W6 (W4.heap.size) 3 (len + 1) (fun i => if i < len then (fun i => .int .i64 (V i)) i else .int .i64 42) from RH.out.one 0 (by simp)).lt; clear hbx hown hgr RC HC; clear a3 la; have a0 : W6.cell? ⟨w.heap.size, 0, none⟩ = some (.int .i64 n0) := (show World.rowIs W6 (w.heap.size) 26 (4) (v4i n0 n1 n2 (.slice aa len ac)) from RH.out.one 2 (by simp)).cell (i := 0) (show 0 < 4 by first | decide | assumption | omega); have a1 : W6.cell? ⟨w.heap.size, 1, none⟩ = some (.int .i64 n1) := (show World.rowIs W6 (w.heap.size) 26 (4) (v4i n0 n1 n2 (.slice aa len ac)) from RH.out.one 2 (by simp)).cell (i := 1) (show 1 < 4 by first | decide | assumption | omega); have a2 : W6.cell? ⟨w.heap.size, 2, none⟩ = some (.int .i64 n2) := (show World.rowIs W6 (w.heap.size) 26 (4) (v4i n0 n1 n2 (.slice aa len ac)) from RH.out.one 2 (by simp)).cell (i := 2) (show 2 < 4 by first | decide | assumption | omega); have a3 : W6.cell? ⟨w.heap.size, 3, none⟩ = some (.slice aa len ac) := (show World.rowIs W6 (w.heap.size) 26 (4) (v4i n0 n1 n2 (.slice aa len ac)) from RH.out.one 2 (by simp)).cell (i := 3) (show 3 < 4 by first | decide | assumption | omega); have la : w.heap.size < W6.heap.size := (show World.rowIs W6 (w.heap.size) 26 (4) (v4i n0 n1 n2 (.slice aa len ac)) from RH.out.one 2 (by simp)).lt))
  refine (HLA.out _ _ (row_rd ((show World.rowIs W6 (W2.heap.size) 41 (n + 1) (fun i => if i < n then (fun i => wn (X i)) i else .int .u64 41) from RH.out.one 1 (by simp)).alloc _) (Nat.le_succ _) (fun i hi => if_pos hi) (n + 1))).line.mono ?_
  rintro e W7 ⟨⟨op, rfl, hop⟩, hb⟩
  clear a0 a1 a2 a3 la
  have hz7 := hb.size
  simp only [World.size_alloc] at hz7 hop
  have hbx : Below W6.heap.size W6 W7 := Below.trans (show Below W6.heap.size W6 (W6.alloc (.cells #[.int .i64 n0, .int .i64 n1, .int .i64 n2, .slice (some ⟨W4.heap.size, 0, none⟩) len (len + 1)] 26)) from (by repeat (first | assumption | exact Below.refl _ _ | refine below_drewN ?_ _ | refine Below.drew ?_ | refine Below.alloc ?_ (by first | (simp; done) | (simp; omega) | omega) _ | refine Below.setCell ?_ (by first | (simp; done) | (simp; omega) | omega) _))) (hb.mono (by first | (simp; done) | (simp; omega)))
  replace RH := Lib.hid (show Has [⟨W6.heap.size, 26, 4, v4i n0 n1 n2 (.slice (some ⟨W4.heap.size, 0, none⟩) len (len + 1))⟩, ⟨W4.heap.size, 3, len + 1, fun i => if i < len then (fun i => .int .i64 (V i)) i else .int .i64 42⟩, ⟨W2.heap.size, 41, n + 1, fun i => if i < n then (fun i => wn (X i)) i else .int .u64 41⟩, ⟨w.heap.size, 26, 4, v4i n0 n1 n2 (.slice aa len ac)⟩] W7 from .cons ((v4i_row W6 n0 n1 n2 (.slice (some ⟨W4.heap.size, 0, none⟩) len (len + 1))).of_block (hb.block _ (by first | (simp; done) | (simp; omega)))) (RH.out.step hbx))
  replace HB := Lib.hid (HB.out.trans (hbx.mono HB.out.size))
  have hsW7 := hbx.size
  clear hbx hb
  have HOp := Lib.hid (show Own 41 W7 (W6.heap.size + 1) (W7.heap.size) op K (fun i => wd (f i)) from hop)
  clear hop
  go_wp2_with fail
  refine (HLA.out _ _ (row_rd (show World.rowIs W7 (W2.heap.size) 41 (n + 1) (fun i => if i < n then (fun i => wn (X i)) i else .int .u64 41) from RH.out.one 2 (by simp)) (Nat.le_succ _) (fun i hi => if_pos hi) (n + 1))).line.mono ?_
  rintro e W8 ⟨⟨oq, rfl, hoq⟩, hb⟩
  have hbx := hb
  replace RH := Lib.hid (show Has [⟨W6.heap.size, 26, 4, v4i n0 n1 n2 (.slice (some ⟨W4.heap.size, 0, none⟩) len (len + 1))⟩, ⟨W4.heap.size, 3, len + 1, fun i => if i < len then (fun i => .int .i64 (V i)) i else .int .i64 42⟩, ⟨W2.heap.size, 41, n + 1, fun i => if i < n then (fun i => wn (X i)) i else .int .u64 41⟩, ⟨w.heap.size, 26, 4, v4i n0 n1 n2 (.slice aa len ac)⟩] W8 from RH.out.step hbx)
  replace HB := Lib.hid (HB.out.trans (hbx.mono HB.out.size))
  replace HOp := Lib.hid (HOp.out.step hbx)
  have hsW8 := hbx.size
  clear hbx hb
  have HOq := Lib.hid (show Own 41 W8 (W7.heap.size) (W8.heap.size) oq K (fun i => wd (f i)) from hoq)
  clear hoq
  go_wp2_with fail
  refine (HLA.out _ _ (row_rd (show World.rowIs W8 (W2.heap.size) 41 (n + 1) (fun i => if i < n then (fun i => wn (X i)) i else .int .u64 41) from RH.out.one 2 (by simp)) (Nat.le_succ _) (fun i hi => if_pos hi) (n + 1))).unline.mono ?_
  rintro e W9 ⟨⟨or, rfl, hor⟩, hb⟩
  have hbx := hb
  replace RH := Lib.hid (show Has [⟨W6.heap.size, 26, 4, v4i n0 n1 n2 (.slice (some ⟨W4.heap.size, 0, none⟩) len (len + 1))⟩, ⟨W4.heap.size, 3, len + 1, fun i => if i < len then (fun i => .int .i64 (V i)) i else .int .i64 42⟩, ⟨W2.heap.size, 41, n + 1, fun i => if i < n then (fun i => wn (X i)) i else .int .u64 41⟩, ⟨w.heap.size, 26, 4, v4i n0 n1 n2 (.slice aa len ac)⟩] W9 from RH.out.step hbx)
  replace HB := Lib.hid (HB.out.trans (hbx.mono HB.out.size))
  replace HOp := Lib.hid (HOp.out.step hbx)
  replace HOq := Lib.hid (HOq.out.step hbx)
  have hsW9 := hbx.size
  clear hbx hb
  have HOr := Lib.hid (show Own 41 W9 (W8.heap.size) (W9.heap.size) or K (fun i => wd (g i)) from hor)
  clear hor
  go_wp2_with fail
  refine (HLA.out _ _ (row_rd (show World.rowIs W9 (W2.heap.size) 41 (n + 1) (fun i => if i < n then (fun i => wn (X i)) i else .int .u64 41) from RH.out.one 2 (by simp)) (Nat.le_succ _) (fun i hi => if_pos hi) (n + 1))).unline.mono ?_
  rintro e W10 ⟨⟨os, rfl, hos⟩, hb⟩
  have hbx := hb
  replace RH := Lib.hid (show Has [⟨W6.heap.size, 26, 4, v4i n0 n1 n2 (.slice (some ⟨W4.heap.size, 0, none⟩) len (len + 1))⟩, ⟨W4.heap.size, 3, len + 1, fun i => if i < len then (fun i => .int .i64 (V i)) i else .int .i64 42⟩, ⟨W2.heap.size, 41, n + 1, fun i => if i < n then (fun i => wn (X i)) i else .int .u64 41⟩, ⟨w.heap.size, 26, 4, v4i n0 n1 n2 (.slice aa len ac)⟩] W10 from RH.out.step hbx)
  replace HB := Lib.hid (HB.out.trans (hbx.mono HB.out.size))
  replace HOp := Lib.hid (HOp.out.step hbx)
  replace HOq := Lib.hid (HOq.out.step hbx)
  replace HOr := Lib.hid (HOr.out.step hbx)
  have hsW10 := hbx.size
  clear hbx hb
  have HOs := Lib.hid (show Own 41 W10 (W9.heap.size) (W10.heap.size) os K (fun i => wd (g i)) from hos)
  clear hos
  have c0 : W10.cell? ⟨W6.heap.size, 0, none⟩ = some (.int .i64 n0) := (show World.rowIs W10 (W6.heap.size) 26 (4) (v4i n0 n1 n2 (.slice (some ⟨W4.heap.size, 0, none⟩) len (len + 1))) from RH.out.one 0 (by simp)).cell (i := 0) (show 0 < 4 by first | decide | assumption | omega)
  have c1 : W10.cell? ⟨W6.heap.size, 1, none⟩ = some (.int .i64 n1) := (show World.rowIs W10 (W6.heap.size) 26 (4) (v4i n0 n1 n2 (.slice (some ⟨W4.heap.size, 0, none⟩) len (len + 1))) from RH.out.one 0 (by simp)).cell (i := 1) (show 1 < 4 by first | decide | assumption | omega)
  have c2 : W10.cell? ⟨W6.heap.size, 2, none⟩ = some (.int .i64 n2) := (show World.rowIs W10 (W6.heap.size) 26 (4) (v4i n0 n1 n2 (.slice (some ⟨W4.heap.size, 0, none⟩) len (len + 1))) from RH.out.one 0 (by simp)).cell (i := 2) (show 2 < 4 by first | decide | assumption | omega)
  have c3 : W10.cell? ⟨W6.heap.size, 3, none⟩ = some (.slice (some ⟨W4.heap.size, 0, none⟩) len (len + 1)) := (show World.rowIs W10 (W6.heap.size) 26 (4) (v4i n0 n1 n2 (.slice (some ⟨W4.heap.size, 0, none⟩) len (len + 1))) from RH.out.one 0 (by simp)).cell (i := 3) (show 3 < 4 by first | decide | assumption | omega)
  have lc : W6.heap.size < W10.heap.size := (show World.rowIs W10 (W6.heap.size) 26 (4) (v4i n0 n1 n2 (.slice (some ⟨W4.heap.size, 0, none⟩) len (len + 1))) from RH.out.one 0 (by simp)).lt
  go_wp2_with fail
  refine (HFA.out _ _ (row_rd (show World.rowIs W10 (W4.heap.size) 3 (len + 1) (fun i => if i < len then (fun i => .int .i64 (V i)) i else .int .i64 42) from RH.out.one 1 (by simp)) (Nat.le_succ _) (fun i hi => if_pos hi) (len + 1))).1.fold.mono ?_
  rintro e W11 ⟨⟨of, rfl, hof⟩, hb⟩
  clear c0 c1 c2 c3 lc
  have hbx := hb
  replace RH := Lib.hid (show Has [⟨W6.heap.size, 26, 4, v4i n0 n1 n2 (.slice (some ⟨W4.heap.size, 0, none⟩) len (len + 1))⟩, ⟨W4.heap.size, 3, len + 1, fun i => if i < len then (fun i => .int .i64 (V i)) i else .int .i64 42⟩, ⟨W2.heap.size, 41, n + 1, fun i => if i < n then (fun i => wn (X i)) i else .int .u64 41⟩, ⟨w.heap.size, 26, 4, v4i n0 n1 n2 (.slice aa len ac)⟩] W11 from RH.out.step hbx)
  replace HB := Lib.hid (HB.out.trans (hbx.mono HB.out.size))
  replace HOp := Lib.hid (HOp.out.step hbx)
  replace HOq := Lib.hid (HOq.out.step hbx)
  replace HOr := Lib.hid (HOr.out.step hbx)
  replace HOs := Lib.hid (HOs.out.step hbx)
  have hsW11 := hbx.size
  clear hbx hb
  have HOf := Lib.hid (show Own 3 W11 (W10.heap.size) (W11.heap.size) of KF (fun i => .int .i64 (Z i)) from hof)
  clear hof
  have c0 : W11.cell? ⟨W6.heap.size, 0, none⟩ = some (.int .i64 n0) := (show World.rowIs W11 (W6.heap.size) 26 (4) (v4i n0 n1 n2 (.slice (some ⟨W4.heap.size, 0, none⟩) len (len + 1))) from RH.out.one 0 (by simp)).cell (i := 0) (show 0 < 4 by first | decide | assumption | omega)
  have c1 : W11.cell? ⟨W6.heap.size, 1, none⟩ = some (.int .i64 n1) := (show World.rowIs W11 (W6.heap.size) 26 (4) (v4i n0 n1 n2 (.slice (some ⟨W4.heap.size, 0, none⟩) len (len + 1))) from RH.out.one 0 (by simp)).cell (i := 1) (show 1 < 4 by first | decide | assumption | omega)
  have c2 : W11.cell? ⟨W6.heap.size, 2, none⟩ = some (.int .i64 n2) := (show World.rowIs W11 (W6.heap.size) 26 (4) (v4i n0 n1 n2 (.slice (some ⟨W4.heap.size, 0, none⟩) len (len + 1))) from RH.out.one 0 (by simp)).cell (i := 2) (show 2 < 4 by first | decide | assumption | omega)
  have c3 : W11.cell? ⟨W6.heap.size, 3, none⟩ = some (.slice (some ⟨W4.heap.size, 0, none⟩) len (len + 1)) := (show World.rowIs W11 (W6.heap.size) 26 (4) (v4i n0 n1 n2 (.slice (some ⟨W4.heap.size, 0, none⟩) len (len + 1))) from RH.out.one 0 (by simp)).cell (i := 3) (show 3 < 4 by first | decide | assumption | omega)
  have lc : W6.heap.size < W11.heap.size := (show World.rowIs W11 (W6.heap.size) 26 (4) (v4i n0 n1 n2 (.slice (some ⟨W4.heap.size, 0, none⟩) len (len + 1))) from RH.out.one 0 (by simp)).lt
  go_wp2_with fail
  refine (HFA.out _ _ (row_rd ((show World.rowIs W11 (W4.heap.size) 3 (len + 1) (fun i => if i < len then (fun i => .int .i64 (V i)) i else .int .i64 42) from RH.out.one 1 (by simp)).alloc _) (Nat.le_succ _) (fun i hi => if_pos hi) (len + 1))).1.fold.mono ?_
  rintro e W12 ⟨⟨oh, rfl, hoh⟩, hb⟩
  clear c0 c1 c2 c3 lc
  have hz12 := hb.size
  simp only [World.size_alloc] at hz12 hoh
  have hbx : Below W11.heap.size W11 W12 := Below.trans (show Below W11.heap.size W11 (W11.alloc (.cells #[.int .i64 p0, .int .i64 p1, .int .i64 p2, .slice of KF KF] 26)) from (by repeat (first | assumption | exact Below.refl _ _ | refine below_drewN ?_ _ | refine Below.drew ?_ | refine Below.alloc ?_ (by first | (simp; done) | (simp; omega) | omega) _ | refine Below.setCell ?_ (by first | (simp; done) | (simp; omega) | omega) _))) (hb.mono (by first | (simp; done) | (simp; omega)))
  replace RH := Lib.hid (show Has [⟨W11.heap.size, 26, 4, v4i p0 p1 p2 (.slice of KF KF)⟩, ⟨W6.heap.size, 26, 4, v4i n0 n1 n2 (.slice (some ⟨W4.heap.size, 0, none⟩) len (len + 1))⟩, ⟨W4.heap.size, 3, len + 1, fun i => if i < len then (fun i => .int .i64 (V i)) i else .int .i64 42⟩, ⟨W2.heap.size, 41, n + 1, fun i => if i < n then (fun i => wn (X i)) i else .int .u64 41⟩, ⟨w.heap.size, 26, 4, v4i n0 n1 n2 (.slice aa len ac)⟩] W12 from .cons ((v4i_row W11 p0 p1 p2 (.slice of KF KF)).of_block (hb.block _ (by first | (simp; done) | (simp; omega)))) (RH.out.step hbx))
  replace HB := Lib.hid (HB.out.trans (hbx.mono HB.out.size))
  replace HOp := Lib.hid (HOp.out.step hbx)
  replace HOq := Lib.hid (HOq.out.step hbx)
  replace HOr := Lib.hid (HOr.out.step hbx)
  replace HOs := Lib.hid (HOs.out.step hbx)
  replace HOf := Lib.hid (HOf.out.step hbx)
  have hsW12 := hbx.size
  clear hbx hb
  have HOh := Lib.hid (show Own 3 W12 (W11.heap.size + 1) (W12.heap.size) oh KF (fun i => .int .i64 (Z i)) from hoh)
  clear hoh
  have a0 : W12.cell? ⟨w.heap.size, 0, none⟩ = some (.int .i64 n0) := (show World.rowIs W12 (w.heap.size) 26 (4) (v4i n0 n1 n2 (.slice aa len ac)) from RH.out.one 4 (by simp)).cell (i := 0) (show 0 < 4 by first | decide | assumption | omega)
  have a1 : W12.cell? ⟨w.heap.size, 1, none⟩ = some (.int .i64 n1) := (show World.rowIs W12 (w.heap.size) 26 (4) (v4i n0 n1 n2 (.slice aa len ac)) from RH.out.one 4 (by simp)).cell (i := 1) (show 1 < 4 by first | decide | assumption | omega)
  have a2 : W12.cell? ⟨w.heap.size, 2, none⟩ = some (.int .i64 n2) := (show World.rowIs W12 (w.heap.size) 26 (4) (v4i n0 n1 n2 (.slice aa len ac)) from RH.out.one 4 (by simp)).cell (i := 2) (show 2 < 4 by first | decide | assumption | omega)
  have a3 : W12.cell? ⟨w.heap.size, 3, none⟩ = some (.slice aa len ac) := (show World.rowIs W12 (w.heap.size) 26 (4) (v4i n0 n1 n2 (.slice aa len ac)) from RH.out.one 4 (by simp)).cell (i := 3) (show 3 < 4 by first | decide | assumption | omega)
  have la : w.heap.size < W12.heap.size := (show World.rowIs W12 (w.heap.size) 26 (4) (v4i n0 n1 n2 (.slice aa len ac)) from RH.out.one 4 (by simp)).lt
  go_wp2
  have hbz : Below W12.heap.size W12 (W12.alloc (.cells #[.int .i64 p0, .int .i64 p1, .int .i64 p2, .slice oh KF KF] 26)) := alloc_below _ _
  refine wp_abs (fun wX => (Has [⟨W12.heap.size, 26, 4, v4i p0 p1 p2 (.slice oh KF KF)⟩, ⟨W11.heap.size, 26, 4, v4i p0 p1 p2 (.slice of KF KF)⟩, ⟨W6.heap.size, 26, 4, v4i n0 n1 n2 (.slice (some ⟨W4.heap.size, 0, none⟩) len (len + 1))⟩, ⟨W4.heap.size, 3, len + 1, fun i => if i < len then (fun i => .int .i64 (V i)) i else .int .i64 42⟩, ⟨W2.heap.size, 41, n + 1, fun i => if i < n then (fun i => wn (X i)) i else .int .u64 41⟩, ⟨w.heap.size, 26, 4, v4i n0 n1 n2 (.slice aa len ac)⟩] wX) ∧ Below w.heap.size w wX ∧ W12.heap.size < wX.heap.size ∧ Own 41 wX (W6.heap.size + 1) (W7.heap.size) op K (fun i => wd (f i)) ∧ Own 41 wX (W7.heap.size) (W8.heap.size) oq K (fun i => wd (f i)) ∧ Own 41 wX (W8.heap.size) (W9.heap.size) or K (fun i => wd (g i)) ∧ Own 41 wX (W9.heap.size) (W10.heap.size) os K (fun i => wd (g i)) ∧ Own 3 wX (W10.heap.size) (W11.heap.size) of KF (fun i => .int .i64 (Z i)) ∧ Own 3 wX (W11.heap.size + 1) (W12.heap.size) oh KF (fun i => .int .i64 (Z i))) ⟨.cons (v4i_row W12 p0 p1 p2 (.slice oh KF KF)) (RH.out.step hbz), HB.out.trans (hbz.mono HB.out.size), by simp, HOp.out.step hbz, HOq.out.step hbz, HOr.out.step hbz, HOs.out.step hbz, HOf.out.step hbz, HOh.out.step hbz⟩ ?_
  intro Y hX
  obtain ⟨h1, h2, hsY, kHOp, kHOq, kHOr, kHOs, kHOf, kHOh⟩ := hX
  clear hbz RH HB a0 a1 a2 a3 la HOp HOq HOr HOs HOf HOh
  have RH := Lib.hid h1; have HB := Lib.hid h2
  have HOp := Lib.hid kHOp
  have HOq := Lib.hid kHOq
  have HOr := Lib.hid kHOr
  have HOs := Lib.hid kHOs
  have HOf := Lib.hid kHOf
  have HOh := Lib.hid kHOh
  clear h1 h2 kHOp kHOq kHOr kHOs kHOf kHOh
  have a0 : Y.cell? ⟨w.heap.size, 0, none⟩ = some (.int .i64 n0) := (show World.rowIs Y (w.heap.size) 26 (4) (v4i n0 n1 n2 (.slice aa len ac)) from RH.out.one 5 (by simp)).cell (i := 0) (show 0 < 4 by first | decide | assumption | omega)
  have a1 : Y.cell? ⟨w.heap.size, 1, none⟩ = some (.int .i64 n1) := (show World.rowIs Y (w.heap.size) 26 (4) (v4i n0 n1 n2 (.slice aa len ac)) from RH.out.one 5 (by simp)).cell (i := 1) (show 1 < 4 by first | decide | assumption | omega)
  have a2 : Y.cell? ⟨w.heap.size, 2, none⟩ = some (.int .i64 n2) := (show World.rowIs Y (w.heap.size) 26 (4) (v4i n0 n1 n2 (.slice aa len ac)) from RH.out.one 5 (by simp)).cell (i := 2) (show 2 < 4 by first | decide | assumption | omega)
  have a3 : Y.cell? ⟨w.heap.size, 3, none⟩ = some (.slice aa len ac) := (show World.rowIs Y (w.heap.size) 26 (4) (v4i n0 n1 n2 (.slice aa len ac)) from RH.out.one 5 (by simp)).cell (i := 3) (show 3 < 4 by first | decide | assumption | omega)
  have la : w.heap.size < Y.heap.size := (show World.rowIs Y (w.heap.size) 26 (4) (v4i n0 n1 n2 (.slice aa len ac)) from RH.out.one 5 (by simp)).lt
  have fl : Y.cell? ⟨W2.heap.size, n, none⟩ = some (.int .u64 41) := ((show World.rowIs Y (W2.heap.size) 41 (n + 1) (fun i => if i < n then (fun i => wn (X i)) i else .int .u64 41) from RH.out.one 4 (by simp)).cell (i := n) (Nat.lt_succ_self n)).trans (congrArg some (if_neg (Nat.lt_irrefl n)))
  have fv : Y.cell? ⟨W4.heap.size, len, none⟩ = some (.int .i64 42) := ((show World.rowIs Y (W4.heap.size) 3 (len + 1) (fun i => if i < len then (fun i => .int .i64 (V i)) i else .int .i64 42) from RH.out.one 3 (by simp)).cell (i := len) (Nat.lt_succ_self len)).trans (congrArg some (if_neg (Nat.lt_irrefl len)))
  have ll : W2.heap.size < Y.heap.size := (show World.rowIs Y (W2.heap.size) 41 (n + 1) (fun i => if i < n then (fun i => wn (X i)) i else .int .u64 41) from RH.out.one 4 (by simp)).lt
  have lv : W4.heap.size < Y.heap.size := (show World.rowIs Y (W4.heap.size) 3 (len + 1) (fun i => if i < len then (fun i => .int .i64 (V i)) i else .int .i64 42) from RH.out.one 3 (by simp)).lt
  have SW := Lib.hid (fun w' (hb : Below Y.heap.size Y w') => quiet_below (same_words (X := X) ((show Rd Y _ n (fun i => wn (X i)) from row_rd (show World.rowIs Y (W2.heap.size) 41 (n + 1) (fun i => if i < n then (fun i => wn (X i)) i else .int .u64 41) from RH.out.one 4 (by simp)) (Nat.le_succ _) (fun i hi => if_pos hi) (n + 1)).below hb) (RX.out w' (HB.out.trans (hb.mono HB.out.size))) hn))
  have SC := Lib.hid (fun w' (hb : Below Y.heap.size Y w') => same_counts (n0 := n0) (n1 := n1) (n2 := n2) (V := V) ((show Rd Y _ len (fun i => .int .i64 (V i)) from row_rd (show World.rowIs Y (W4.heap.size) 3 (len + 1) (fun i => if i < len then (fun i => .int .i64 (V i)) i else .int .i64 42) from RH.out.one 3 (by simp)) (Nat.le_succ _) (fun i hi => if_pos hi) (len + 1)).below hb) (RA.out w' (HB.out.trans (hb.mono HB.out.size))) hlen)
  refine region_all (by kernel_rfl) (by kernel_rfl) ?_
  repeat (go_big_quiet_step ((first | (go_at_call 28; with_reducible exact held_of _ (Nat.le_refl _) (SW.out _ (BelowW.below _))) | (go_at_call 17; with_reducible exact held_of _ (Nat.le_refl _) (SC.out _ (BelowW.below _))))))
  refine wpQuiet_nil ?_
  rintro Wc ⟨⟨w0, hb⟩, rfl⟩
  clear a0 a1 a2 a3 la fl fv ll lv SW SC
  have hbx := hb
  replace RH := Lib.hid (show Has [⟨W12.heap.size, 26, 4, v4i p0 p1 p2 (.slice oh KF KF)⟩, ⟨W11.heap.size, 26, 4, v4i p0 p1 p2 (.slice of KF KF)⟩, ⟨W6.heap.size, 26, 4, v4i n0 n1 n2 (.slice (some ⟨W4.heap.size, 0, none⟩) len (len + 1))⟩, ⟨W4.heap.size, 3, len + 1, fun i => if i < len then (fun i => .int .i64 (V i)) i else .int .i64 42⟩, ⟨W2.heap.size, 41, n + 1, fun i => if i < n then (fun i => wn (X i)) i else .int .u64 41⟩, ⟨w.heap.size, 26, 4, v4i n0 n1 n2 (.slice aa len ac)⟩] Wc from RH.out.step hbx)
  replace HB := Lib.hid (HB.out.trans (hbx.mono HB.out.size))
  replace HOp := Lib.hid (HOp.out.step hbx)
  replace HOq := Lib.hid (HOq.out.step hbx)
  replace HOr := Lib.hid (HOr.out.step hbx)
  replace HOs := Lib.hid (HOs.out.step hbx)
  replace HOf := Lib.hid (HOf.out.step hbx)
  replace HOh := Lib.hid (HOh.out.step hbx)
  have hsWc := hbx.size
  clear hbx hb
  have lc0 := HB.out.size
  have lcv : W4.heap.size < Wc.heap.size := (show World.rowIs Wc (W4.heap.size) 3 (len + 1) (fun i => if i < len then (fun i => .int .i64 (V i)) i else .int .i64 42) from RH.out.one 3 (by simp)).lt
  have lcl : W2.heap.size < Wc.heap.size := (show World.rowIs Wc (W2.heap.size) 41 (n + 1) (fun i => if i < n then (fun i => wn (X i)) i else .int .u64 41) from RH.out.one 4 (by simp)).lt
  have HK0 := Lib.hid (KB.refl (fun b => b = W2.heap.size) Wc)
  go_wp2
  go_loopw [142] (fun y wr => ∃ j : Nat, j ≤ n + 1 ∧ y = .int .i64 j ∧ Below w.heap.size w wr ∧ KB (fun b => b = W2.heap.size) Wc wr ∧ ∃ φ, wr.rowIs W2.heap.size 41 (n + 1) φ) (fun y _ => n + 1 - (RowKit.intOf y).toNat)
  case atStart => exact ⟨0, Nat.zero_le _, rfl, HB.out, HK0.out, _, (show World.rowIs Wc (W2.heap.size) 41 (n + 1) (fun i => if i < n then (fun i => wn (X i)) i else .int .u64 41) from RH.out.one 4 (by simp))⟩
  case round =>
    obtain ⟨j, hj, rfl, hb, hk, φ, hrow⟩ := hrel
    by_cases hjn : j < n + 1
    · have hjl : (j : Int) < (n : Int) + 1 := by omega
      have cf : wr.frozen? ⟨W2.heap.size, j, none⟩ = false := hrow.frozen j
      have cc : wr.cell? ⟨W2.heap.size, j, none⟩ = some (φ j) := hrow.cell hjn
      have HBr := Lib.hid hb; have HKr := Lib.hid hk; have HRr := Lib.hid hrow; have hlt := hrow.lt
      clear hb hk hrow
      go_wp2
      go_roundw
      case rel => exact ⟨j + 1, by omega, by go_num, HBr.out.setCell (by simp only; omega) _, HKr.out.set _ _ (by first | omega | (dsimp only; omega) | (simp; done) | (simp; omega)), _, HRr.out.set j _⟩
      case measure => simp [RowKit.intOf]; omega
    · have HB1 := Lib.hid hb; have HK1 := Lib.hid hk
      clear hb hk hrow
      go_wp2
      go_loopw [151] (fun y wr => ∃ j : Nat, j ≤ len + 1 ∧ y = .int .i64 j ∧ Below w.heap.size w wr ∧ KB (fun b => b = W2.heap.size ∨ b = W4.heap.size) Wc wr ∧ ∃ φ, wr.rowIs W4.heap.size 3 (len + 1) φ) (fun y _ => len + 1 - (RowKit.intOf y).toNat)
      case atStart => exact ⟨0, Nat.zero_le _, rfl, HB1.out, HK1.out.mono (fun b h => .inl h), _, HK1.out.row (show World.rowIs Wc (W4.heap.size) 3 (len + 1) (fun i => if i < len then (fun i => .int .i64 (V i)) i else .int .i64 42) from RH.out.one 3 (by simp)) (by first | omega | (dsimp only; omega) | (simp; done) | (simp; omega))⟩
      case round =>
        obtain ⟨j, hj, rfl, hb, hk, φ, hrow⟩ := hrel
        by_cases hjn : j < len + 1
        · have hjl : (j : Int) < (len : Int) + 1 := by omega
          have cf : wr.frozen? ⟨W4.heap.size, j, none⟩ = false := hrow.frozen j
          have cc : wr.cell? ⟨W4.heap.size, j, none⟩ = some (φ j) := hrow.cell hjn
          have HBr := Lib.hid hb; have HKr := Lib.hid hk; have HRr := Lib.hid hrow; have hlt := hrow.lt
          clear hb hk hrow
          go_wp2
          go_roundw
          case rel => exact ⟨j + 1, by omega, by go_num, HBr.out.setCell (by simp only; omega) _, HKr.out.set _ _ (by first | omega | (dsimp only; omega) | (simp; done) | (simp; omega)), _, HRr.out.set j _⟩
          case measure => simp [RowKit.intOf]; omega
        · have HB2 := Lib.hid hb; have HK2 := Lib.hid hk
          clear hb hk hrow
          go_wp2
          obtain ⟨B57, eB57⟩ : ∃ b, b = wr.heap.size := ⟨_, rfl⟩
          have h57 : Wc.heap.size ≤ B57 := by rw [eB57]; exact HK2.out.size
          have HR57 := Lib.hid (show World.rowIs (wr.alloc (.cells #[.slice op K K, .slice or K K] 40)) B57 40 2 (fun i => if i = 0 then .slice op K K else .slice or K K) by rw [eB57]; exact World.rowIs_alloc wr #[.slice op K K, .slice or K K] 40 (fun i => if i = 0 then .slice op K K else .slice or K K) (fun i hi => by match i, hi with | 0, _ => rfl | 1, _ => rfl))
          have HB2a := Lib.hid (HB2.out.trans (Below.mono (alloc_below wr (.cells #[.slice op K K, .slice or K K] 40)) HB2.out.size)); have HK2a := Lib.hid (HK2.out.step (alloc_below wr (.cells #[.slice op K K, .slice or K K] 40)) HK2.out.size)
          rw [← eB57]
          refine wp_abs (fun wX => (Below w.heap.size w wX ∧ KB (fun b => b = W2.heap.size ∨ b = W4.heap.size) Wc wX) ∧ wX.rowIs B57 40 2 (fun i => if i = 0 then .slice op K K else .slice or K K)) ⟨⟨HB2a.out, HK2a.out⟩, HR57.out⟩ ?_
          intro V2 hX
          have HB3 := Lib.hid hX.1.1; have HK3 := Lib.hid hX.1.2; have H57 := Lib.hid hX.2
          clear hX HB2a HK2a HR57 eB57
          have e0 : V2.cell? ⟨B57, 0, none⟩ = some (.slice op K K) := H57.out.cell (i := 0) (by decide)
          have l57 : B57 < V2.heap.size := H57.out.lt
          refine wp_loop_rounds 3 ?_
          rw [rounds_succ]
          go_wp2
          clear e0 l57
          have HOW := Lib.hid (HK3.out.own HOp.out (fun b h1 h2 hd => by have : b = W2.heap.size ∨ b = W4.heap.size := hd; omega))
          go_loopw [168] (fun y wr => ∃ j : Nat, j ≤ K ∧ y = .int .i64 j ∧ (Below w.heap.size w wr ∧ KB (fun b => b = W2.heap.size ∨ b = W4.heap.size ∨ (W6.heap.size + 1 ≤ b ∧ b < W7.heap.size)) Wc wr ∧ wr.rowIs B57 40 2 (fun i => if i = 0 then .slice op K K else .slice or K K)) ∧ ∃ φ, Own 41 wr (W6.heap.size + 1) (W7.heap.size) op K φ) (fun y _ => K - (RowKit.intOf y).toNat)
          case atStart => exact ⟨0, Nat.zero_le _, rfl, ⟨HB3.out, HK3.out.mono (fun b hd => by have : b = W2.heap.size ∨ b = W4.heap.size := hd; show b = W2.heap.size ∨ b = W4.heap.size ∨ (W6.heap.size + 1 ≤ b ∧ b < W7.heap.size); omega), H57.out⟩, _, HOW.out⟩
          case round =>
            obtain ⟨j, hj, rfl, ⟨hb, hk, h57r⟩, φ, how⟩ := hrel
            clear HOW HB3 HK3 H57
            by_cases hjn : j < K
            · have hjl : (j : Int) < (K : Int) := by omega
              obtain ⟨g, ψ, eo, hlo, hhi, hset⟩ := how.set j hjn (.int .u64 9)
              obtain ⟨g2, eo2, _, _, hrow⟩ := how.row (by omega)
              have eg : g2 = g := by rw [eo] at eo2; simp only [Option.some.injEq, Addr.mk.injEq] at eo2; exact eo2.1.symm
              subst eg
              have cf : wr.frozen? ⟨g2, j, none⟩ = false := hrow.frozen j
              have cc : wr.cell? ⟨g2, j, none⟩ = some (φ j) := hrow.cell hjn
              have hlt := hrow.lt
              have HBr := Lib.hid hb; have HKr := Lib.hid hk; have H57r := Lib.hid h57r; have HS := Lib.hid hset; have EO := Lib.hid eo
              clear hb hk h57r hset eo2 hrow how
              subst eo
              go_wp2
              go_roundw
              case rel => exact ⟨j + 1, by omega, by go_num, ⟨HBr.out.setCell (by simp only; omega) _, HKr.out.set _ _ (by show g2 = W2.heap.size ∨ g2 = W4.heap.size ∨ (W6.heap.size + 1 ≤ g2 ∧ g2 < W7.heap.size); omega), H57r.out.setOther (by simp only; omega) _⟩, _, HS.out⟩
              case measure => simp [RowKit.intOf]; omega
            · have HB3a := Lib.hid hb; have HK3a := Lib.hid hk; have H57 := Lib.hid h57r
              have HOWA := Lib.hid how
              have h57l := h57r.lt
              clear hb hk h57r how
              obtain ⟨xs, hxs⟩ := HOWA.out.owns w.heap.size (by omega) (by unfold maxLen; omega)
              have HXS := Lib.hid hxs
              clear hxs
              have hwlo : w.heap.size ≤ W6.heap.size + 1 := by omega
              have HBAA := Lib.hid (HB3a.out.trans (Below.mono (alloc_below wr (.cells #[.int .u64 1, .int .u64 2] 41)) HB3a.out.size))
              have HKAA := Lib.hid (HK3a.out.step (alloc_below wr (.cells #[.int .u64 1, .int .u64 2] 41)) HK3a.out.size)
              have H57A := Lib.hid (H57.out.alloc (.cells #[.int .u64 1, .int .u64 2] 41))
              have HBA := Lib.hid HBAA.out.size
              have HNE := Lib.hid (show ¬ (W6.heap.size + 1 ≤ B57 ∧ B57 < W7.heap.size) by omega)
              have HDD := Lib.hid (show ∀ b, (W6.heap.size + 1 ≤ b ∧ b < W7.heap.size) → b = W2.heap.size ∨ b = W4.heap.size ∨ (W6.heap.size + 1 ≤ b ∧ b < W7.heap.size) from fun b hb => by omega)
              go_wp2_with (at_builtin; refine wpList_append_own _ rfl (.tmp 175) (.tmp 176) 40 rfl w.heap.size 41 i0 (.int .u64 0) 1 8 Try.underlying40 HI0.out.1 HI0.out.2.2.1 HI0.out.2.1 HI0.out.2.2.2 rfl (by decide) _ K xs rfl (HXS.out.alloc _) ⟨wr.heap.size, 0, none⟩ 2 2 [.int .u64 1, .int .u64 2] rfl rfl (lit2 _ _ _ _) (one2 rfl rfl) (mlen hK) (mbytes hK) (HBA.out) ?_; intro v' w3 hown hgr _; obtain ⟨g3, c3, rfl⟩ := owns_slice hown (Nat.succ_pos _); have HB4 := Lib.hid (Below.grown HBAA.out hgr HBA.out (fun k hk => Nat.le_trans hwlo (HOWA.out.blk _ k hk).1)); have HK4 := Lib.hid (show KB (fun b => b = W2.heap.size ∨ b = W4.heap.size ∨ (W6.heap.size + 1 ≤ b ∧ b < W7.heap.size)) Wc w3 from KB.grown HKAA.out hgr (fun k hk => HDD.out k (HOWA.out.blk _ k hk))); have H57b := Lib.hid (H57A.out.of_block (hgr.block B57 H57A.out.lt (fun e => HNE.out (HOWA.out.blk _ B57 e.symm)))); clear hown hgr)
              clear H57 HXS HOWA HB3a HK3a HBAA HKAA H57A HBA HNE HDD h57l hwlo
              have H57 := H57b
              clear H57b
              have e0 : w3.cell? ⟨B57, 1, none⟩ = some (.slice or K K) := H57.out.cell (i := 1) (by decide)
              have l57 : B57 < w3.heap.size := H57.out.lt
              rw [rounds_succ]
              go_wp2
              clear e0 l57
              have HOW := Lib.hid (HK4.out.own HOr.out (fun b h1 h2 hd => by have : b = W2.heap.size ∨ b = W4.heap.size ∨ (W6.heap.size + 1 ≤ b ∧ b < W7.heap.size) := hd; omega))
              go_loopw [168] (fun y wr => ∃ j : Nat, j ≤ K ∧ y = .int .i64 j ∧ (Below w.heap.size w wr ∧ KB (fun b => b = W2.heap.size ∨ b = W4.heap.size ∨ (W6.heap.size + 1 ≤ b ∧ b < W7.heap.size) ∨ (W8.heap.size ≤ b ∧ b < W9.heap.size)) Wc wr ∧ wr.rowIs B57 40 2 (fun i => if i = 0 then .slice op K K else .slice or K K)) ∧ ∃ φ, Own 41 wr (W8.heap.size) (W9.heap.size) or K φ) (fun y _ => K - (RowKit.intOf y).toNat)
              case atStart => exact ⟨0, Nat.zero_le _, rfl, ⟨HB4.out, HK4.out.mono (fun b hd => by have : b = W2.heap.size ∨ b = W4.heap.size ∨ (W6.heap.size + 1 ≤ b ∧ b < W7.heap.size) := hd; show b = W2.heap.size ∨ b = W4.heap.size ∨ (W6.heap.size + 1 ≤ b ∧ b < W7.heap.size) ∨ (W8.heap.size ≤ b ∧ b < W9.heap.size); omega), H57.out⟩, _, HOW.out⟩
              case round =>
                obtain ⟨j, hj, rfl, ⟨hb, hk, h57r⟩, φ, how⟩ := hrel
                clear HOW HB4 HK4 H57
                by_cases hjn : j < K
                · have hjl : (j : Int) < (K : Int) := by omega
                  obtain ⟨g, ψ, eo, hlo, hhi, hset⟩ := how.set j hjn (.int .u64 9)
                  obtain ⟨g2, eo2, _, _, hrow⟩ := how.row (by omega)
                  have eg : g2 = g := by rw [eo] at eo2; simp only [Option.some.injEq, Addr.mk.injEq] at eo2; exact eo2.1.symm
                  subst eg
                  have cf : wr.frozen? ⟨g2, j, none⟩ = false := hrow.frozen j
                  have cc : wr.cell? ⟨g2, j, none⟩ = some (φ j) := hrow.cell hjn
                  have hlt := hrow.lt
                  have HBr := Lib.hid hb; have HKr := Lib.hid hk; have H57r := Lib.hid h57r; have HS := Lib.hid hset; have EO := Lib.hid eo
                  clear hb hk h57r hset eo2 hrow how
                  subst eo
                  go_wp2
                  go_roundw
                  case rel => exact ⟨j + 1, by omega, by go_num, ⟨HBr.out.setCell (by simp only; omega) _, HKr.out.set _ _ (by show g2 = W2.heap.size ∨ g2 = W4.heap.size ∨ (W6.heap.size + 1 ≤ g2 ∧ g2 < W7.heap.size) ∨ (W8.heap.size ≤ g2 ∧ g2 < W9.heap.size); omega), H57r.out.setOther (by simp only; omega) _⟩, _, HS.out⟩
                  case measure => simp [RowKit.intOf]; omega
                · have HB4a := Lib.hid hb; have HK4a := Lib.hid hk; have H57 := Lib.hid h57r
                  have HOWA := Lib.hid how
                  have h57l := h57r.lt
                  clear hb hk h57r how
                  obtain ⟨xs, hxs⟩ := HOWA.out.owns w.heap.size (by omega) (by unfold maxLen; omega)
                  have HXS := Lib.hid hxs
                  clear hxs
                  have hwlo : w.heap.size ≤ W8.heap.size := by omega
                  have HBAA := Lib.hid (HB4a.out.trans (Below.mono (alloc_below wr (.cells #[.int .u64 1, .int .u64 2] 41)) HB4a.out.size))
                  have HKAA := Lib.hid (HK4a.out.step (alloc_below wr (.cells #[.int .u64 1, .int .u64 2] 41)) HK4a.out.size)
                  have H57A := Lib.hid (H57.out.alloc (.cells #[.int .u64 1, .int .u64 2] 41))
                  have HBA := Lib.hid HBAA.out.size
                  have HNE := Lib.hid (show ¬ (W8.heap.size ≤ B57 ∧ B57 < W9.heap.size) by omega)
                  have HDD := Lib.hid (show ∀ b, (W8.heap.size ≤ b ∧ b < W9.heap.size) → b = W2.heap.size ∨ b = W4.heap.size ∨ (W6.heap.size + 1 ≤ b ∧ b < W7.heap.size) ∨ (W8.heap.size ≤ b ∧ b < W9.heap.size) from fun b hb => by omega)
                  go_wp2_with (at_builtin; refine wpList_append_own _ rfl (.tmp 175) (.tmp 176) 40 rfl w.heap.size 41 i0 (.int .u64 0) 1 8 Try.underlying40 HI0.out.1 HI0.out.2.2.1 HI0.out.2.1 HI0.out.2.2.2 rfl (by decide) _ K xs rfl (HXS.out.alloc _) ⟨wr.heap.size, 0, none⟩ 2 2 [.int .u64 1, .int .u64 2] rfl rfl (lit2 _ _ _ _) (one2 rfl rfl) (mlen hK) (mbytes hK) (HBA.out) ?_; intro v' w4 hown hgr _; obtain ⟨g3, c3, rfl⟩ := owns_slice hown (Nat.succ_pos _); have HB5 := Lib.hid (Below.grown HBAA.out hgr HBA.out (fun k hk => Nat.le_trans hwlo (HOWA.out.blk _ k hk).1)); have HK5 := Lib.hid (show KB (fun b => b = W2.heap.size ∨ b = W4.heap.size ∨ (W6.heap.size + 1 ≤ b ∧ b < W7.heap.size) ∨ (W8.heap.size ≤ b ∧ b < W9.heap.size)) Wc w4 from KB.grown HKAA.out hgr (fun k hk => HDD.out k (HOWA.out.blk _ k hk))); have H57b := Lib.hid (H57A.out.of_block (hgr.block B57 H57A.out.lt (fun e => HNE.out (HOWA.out.blk _ B57 e.symm)))); clear hown hgr)
                  clear H57 HXS HOWA HB4a HK4a HBAA HKAA H57A HBA HNE HDD h57l hwlo
                  have H57 := H57b
                  clear H57b
                  have HFB := Lib.hid ((show World.rowIs Wc (W11.heap.size) 26 (4) (v4i p0 p1 p2 (.slice of KF KF)) from RH.out.one 1 (by simp)))
                  have lfb : W11.heap.size < Wc.heap.size := HFB.out.lt
                  have x3 : w4.cell? ⟨W11.heap.size, 3, none⟩ = some (.slice of KF KF) := (HK5.out.row HFB.out (by first | omega | (dsimp only; omega) | (simp; done) | (simp; omega))).cell (i := 3) (by decide)
                  have lx : W11.heap.size < w4.heap.size := by have := HK5.out.size; omega
                  rw [rounds_succ]
                  go_wp2
                  clear x3 lx H57
                  go_loopw [188] (fun y wr => ∃ j : Nat, j ≤ KF ∧ y = .int .i64 j ∧ (Below w.heap.size w wr ∧ KB (fun b => b = W2.heap.size ∨ b = W4.heap.size ∨ (W6.heap.size + 1 ≤ b ∧ b < W7.heap.size) ∨ (W8.heap.size ≤ b ∧ b < W9.heap.size) ∨ (W10.heap.size ≤ b ∧ b < W11.heap.size)) Wc wr) ∧ ∃ φ, Own 3 wr (W10.heap.size) (W11.heap.size) of KF φ) (fun y _ => KF - (RowKit.intOf y).toNat)
                  case atStart => exact ⟨0, Nat.zero_le _, rfl, ⟨HB5.out, HK5.out.mono (fun b hd => by have : b = W2.heap.size ∨ b = W4.heap.size ∨ (W6.heap.size + 1 ≤ b ∧ b < W7.heap.size) ∨ (W8.heap.size ≤ b ∧ b < W9.heap.size) := hd; show b = W2.heap.size ∨ b = W4.heap.size ∨ (W6.heap.size + 1 ≤ b ∧ b < W7.heap.size) ∨ (W8.heap.size ≤ b ∧ b < W9.heap.size) ∨ (W10.heap.size ≤ b ∧ b < W11.heap.size); omega)⟩, _, HK5.out.own HOf.out (fun b h1 h2 hd => by have : b = W2.heap.size ∨ b = W4.heap.size ∨ (W6.heap.size + 1 ≤ b ∧ b < W7.heap.size) ∨ (W8.heap.size ≤ b ∧ b < W9.heap.size) := hd; omega)⟩
                  case round =>
                    obtain ⟨j, hj, rfl, ⟨hb, hk⟩, φ, how⟩ := hrel
                    clear HB5 HK5
                    by_cases hjn : j < KF
                    · have hjl : (j : Int) < (KF : Int) := by omega
                      obtain ⟨g, ψ, eo, hlo, hhi, hset⟩ := how.set j hjn (.int .i64 (-1))
                      obtain ⟨g2, eo2, _, _, hrow⟩ := how.row (by omega)
                      have eg : g2 = g := by rw [eo] at eo2; simp only [Option.some.injEq, Addr.mk.injEq] at eo2; exact eo2.1.symm
                      subst eg
                      have cf : wr.frozen? ⟨g2, j, none⟩ = false := hrow.frozen j
                      have cc : wr.cell? ⟨g2, j, none⟩ = some (φ j) := hrow.cell hjn
                      have hlt := hrow.lt
                      have x3 : wr.cell? ⟨W11.heap.size, 3, none⟩ = some (.slice of KF KF) := (hk.row HFB.out (by first | omega | (dsimp only; omega) | (simp; done) | (simp; omega))).cell (i := 3) (by decide)
                      have lx : W11.heap.size < wr.heap.size := by have := hk.size; omega
                      have hsz := hk.size
                      have HBr := Lib.hid hb; have HKr := Lib.hid hk; have HS := Lib.hid hset
                      clear hb hk hset eo2 hrow how
                      subst eo
                      go_wp2
                      go_roundw
                      case rel => exact ⟨j + 1, by omega, by go_num, ⟨HBr.out.setCell (by simp only; omega) _, HKr.out.set _ _ (by show g2 = W2.heap.size ∨ g2 = W4.heap.size ∨ (W6.heap.size + 1 ≤ g2 ∧ g2 < W7.heap.size) ∨ (W8.heap.size ≤ g2 ∧ g2 < W9.heap.size) ∨ (W10.heap.size ≤ g2 ∧ g2 < W11.heap.size); omega)⟩, _, HS.out⟩
                      case measure => simp [RowKit.intOf]; omega
                    · have HE := Lib.hid hb
                      have RF := Lib.hid (show Has [⟨W12.heap.size, 26, 4, v4i p0 p1 p2 (.slice oh KF KF)⟩, ⟨w.heap.size, 26, 4, v4i n0 n1 n2 (.slice aa len ac)⟩] wr from .cons (hk.row (show World.rowIs Wc (W12.heap.size) 26 (4) (v4i p0 p1 p2 (.slice oh KF KF)) from RH.out.one 0 (by simp)) (by first | omega | (dsimp only; omega) | (simp; done) | (simp; omega))) (.cons (hk.row (show World.rowIs Wc (w.heap.size) 26 (4) (v4i n0 n1 n2 (.slice aa len ac)) from RH.out.one 5 (by simp)) (by first | omega | (dsimp only; omega) | (simp; done) | (simp; omega))) (.nil _)))
                      have GOq := Lib.hid (show Own 41 wr (W7.heap.size) (W8.heap.size) oq K (fun i => wd (f i)) from hk.own HOq.out (fun b h1 h2 hd => by have : b = W2.heap.size ∨ b = W4.heap.size ∨ (W6.heap.size + 1 ≤ b ∧ b < W7.heap.size) ∨ (W8.heap.size ≤ b ∧ b < W9.heap.size) ∨ (W10.heap.size ≤ b ∧ b < W11.heap.size) := hd; omega))
                      have GOs := Lib.hid (show Own 41 wr (W9.heap.size) (W10.heap.size) os K (fun i => wd (g i)) from hk.own HOs.out (fun b h1 h2 hd => by have : b = W2.heap.size ∨ b = W4.heap.size ∨ (W6.heap.size + 1 ≤ b ∧ b < W7.heap.size) ∨ (W8.heap.size ≤ b ∧ b < W9.heap.size) ∨ (W10.heap.size ≤ b ∧ b < W11.heap.size) := hd; omega))
                      have GOh := Lib.hid (show Own 3 wr (W11.heap.size + 1) (W12.heap.size) oh KF (fun i => .int .i64 (Z i)) from hk.own HOh.out (fun b h1 h2 hd => by have : b = W2.heap.size ∨ b = W4.heap.size ∨ (W6.heap.size + 1 ≤ b ∧ b < W7.heap.size) ∨ (W8.heap.size ≤ b ∧ b < W9.heap.size) ∨ (W10.heap.size ≤ b ∧ b < W11.heap.size) := hd; omega))
                      have hse := hb.size
                      clear hb hk how
                      go_wp2_with fail
                      refine (HLA.out _ _ (RX.out _ HE.out)).dline.mono ?_
                      rintro e Y1 ⟨⟨sy, rfl, hy⟩, hb⟩
                      have hbx := hb
                      replace RF := Lib.hid (show Has [⟨W12.heap.size, 26, 4, v4i p0 p1 p2 (.slice oh KF KF)⟩, ⟨w.heap.size, 26, 4, v4i n0 n1 n2 (.slice aa len ac)⟩] Y1 from RF.out.step hbx)
                      replace HE := Lib.hid (HE.out.trans (hbx.mono HE.out.size))
                      replace GOq := Lib.hid (GOq.out.step hbx)
                      replace GOs := Lib.hid (GOs.out.step hbx)
                      replace GOh := Lib.hid (GOh.out.step hbx)
                      have hsY1 := hbx.size
                      clear hbx hb
                      have HY := Lib.hid hy
                      clear hy
                      go_wp2_with fail
                      refine (HLA.out _ _ (RX.out _ HE.out)).dunline.mono ?_
                      rintro e Y2 ⟨⟨sz2, rfl, hz⟩, hb⟩
                      have HY2 := Lib.hid (HY.out.below hb)
                      have hbx := hb
                      replace RF := Lib.hid (show Has [⟨W12.heap.size, 26, 4, v4i p0 p1 p2 (.slice oh KF KF)⟩, ⟨w.heap.size, 26, 4, v4i n0 n1 n2 (.slice aa len ac)⟩] Y2 from RF.out.step hbx)
                      replace HE := Lib.hid (HE.out.trans (hbx.mono HE.out.size))
                      replace GOq := Lib.hid (GOq.out.step hbx)
                      replace GOs := Lib.hid (GOs.out.step hbx)
                      replace GOh := Lib.hid (GOh.out.step hbx)
                      have hsY2 := hbx.size
                      clear hbx hb
                      have HZ := Lib.hid hz
                      clear hz HY
                      have a0 : Y2.cell? ⟨w.heap.size, 0, none⟩ = some (.int .i64 n0) := (show World.rowIs Y2 (w.heap.size) 26 (4) (v4i n0 n1 n2 (.slice aa len ac)) from RF.out.one 1 (by simp)).cell (i := 0) (show 0 < 4 by first | decide | assumption | omega)
                      have a1 : Y2.cell? ⟨w.heap.size, 1, none⟩ = some (.int .i64 n1) := (show World.rowIs Y2 (w.heap.size) 26 (4) (v4i n0 n1 n2 (.slice aa len ac)) from RF.out.one 1 (by simp)).cell (i := 1) (show 1 < 4 by first | decide | assumption | omega)
                      have a2 : Y2.cell? ⟨w.heap.size, 2, none⟩ = some (.int .i64 n2) := (show World.rowIs Y2 (w.heap.size) 26 (4) (v4i n0 n1 n2 (.slice aa len ac)) from RF.out.one 1 (by simp)).cell (i := 2) (show 2 < 4 by first | decide | assumption | omega)
                      have a3 : Y2.cell? ⟨w.heap.size, 3, none⟩ = some (.slice aa len ac) := (show World.rowIs Y2 (w.heap.size) 26 (4) (v4i n0 n1 n2 (.slice aa len ac)) from RF.out.one 1 (by simp)).cell (i := 3) (show 3 < 4 by first | decide | assumption | omega)
                      have la : w.heap.size < Y2.heap.size := (show World.rowIs Y2 (w.heap.size) 26 (4) (v4i n0 n1 n2 (.slice aa len ac)) from RF.out.one 1 (by simp)).lt
                      go_wp2_with fail
                      refine (HFA.out _ _ (RA.out _ HE.out)).1.doc.mono ?_
                      rintro e Y3 ⟨⟨od, rfl, hd⟩, hb⟩
                      have HY3 := Lib.hid (HY2.out.below hb); have HZ3 := Lib.hid (HZ.out.below hb)
                      clear a0 a1 a2 a3 la
                      have hbx := hb
                      replace RF := Lib.hid (show Has [⟨W12.heap.size, 26, 4, v4i p0 p1 p2 (.slice oh KF KF)⟩, ⟨w.heap.size, 26, 4, v4i n0 n1 n2 (.slice aa len ac)⟩] Y3 from RF.out.step hbx)
                      replace HE := Lib.hid (HE.out.trans (hbx.mono HE.out.size))
                      replace GOq := Lib.hid (GOq.out.step hbx)
                      replace GOs := Lib.hid (GOs.out.step hbx)
                      replace GOh := Lib.hid (GOh.out.step hbx)
                      have hsY3 := hbx.size
                      clear hbx hb
                      have HD := Lib.hid (hd.rd KF)
                      clear hd HY2 HZ
                      go_wp2_with fail
                      have h3a : Below Y3.heap.size Y3 (Y3.alloc (.cells #[.int .i64 p0, .int .i64 p1, .int .i64 p2, .slice od KF KF] 26)) := alloc_below _ _
                      refine (same_words (X := fun i => (f i).val) ((GOq.out.step h3a).rd K) (HY3.out.below h3a) (by omega)).mono ?_
                      rintro e Y4 ⟨rfl, k4, hw4⟩
                      have h34 : Below Y3.heap.size Y3 Y4 := by rw [hw4]; exact below_drewN h3a k4
                      have db : Y4.rowIs Y3.heap.size 26 4 (v4i p0 p1 p2 (.slice od KF KF)) := by rw [hw4]; exact v4i_row Y3 p0 p1 p2 (.slice od KF KF)
                      have HZ4 := Lib.hid (HZ3.out.below h34); have HD4 := Lib.hid (HD.out.below h34)
                      replace RF := Lib.hid (show Has [⟨Y3.heap.size, 26, 4, v4i p0 p1 p2 (.slice od KF KF)⟩, ⟨W12.heap.size, 26, 4, v4i p0 p1 p2 (.slice oh KF KF)⟩, ⟨w.heap.size, 26, 4, v4i n0 n1 n2 (.slice aa len ac)⟩] Y4 from .cons db (RF.out.step h34))
                      replace HE := Lib.hid (HE.out.trans (h34.mono HE.out.size))
                      replace GOs := Lib.hid (GOs.out.step h34)
                      replace GOh := Lib.hid (GOh.out.step h34)
                      clear hw4 h3a h34 db HY3 HZ3 HD GOq
                      go_wp2_with fail
                      refine (same_words (X := fun i => (g i).val) (GOs.out.rd K) HZ4.out (by omega)).mono ?_
                      rintro e Y5 ⟨rfl, k5, hw5⟩
                      have h45 : Below Y4.heap.size Y4 Y5 := by rw [hw5]; exact below_drewN (Below.refl _ _) k5
                      have HD5 := Lib.hid (HD4.out.below h45)
                      clear HZ4 HD4 GOs hw5
                      have hbx := h45
                      replace RF := Lib.hid (show Has [⟨Y3.heap.size, 26, 4, v4i p0 p1 p2 (.slice od KF KF)⟩, ⟨W12.heap.size, 26, 4, v4i p0 p1 p2 (.slice oh KF KF)⟩, ⟨w.heap.size, 26, 4, v4i n0 n1 n2 (.slice aa len ac)⟩] Y5 from RF.out.step hbx)
                      replace HE := Lib.hid (HE.out.trans (hbx.mono HE.out.size))
                      replace GOh := Lib.hid (GOh.out.step hbx)
                      have hsY5 := hbx.size
                      clear hbx h45
                      have b0 : Y5.cell? ⟨W12.heap.size, 0, none⟩ = some (.int .i64 p0) := (show World.rowIs Y5 (W12.heap.size) 26 (4) (v4i p0 p1 p2 (.slice oh KF KF)) from RF.out.one 1 (by simp)).cell (i := 0) (show 0 < 4 by first | decide | assumption | omega)
                      have b1 : Y5.cell? ⟨W12.heap.size, 1, none⟩ = some (.int .i64 p1) := (show World.rowIs Y5 (W12.heap.size) 26 (4) (v4i p0 p1 p2 (.slice oh KF KF)) from RF.out.one 1 (by simp)).cell (i := 1) (show 1 < 4 by first | decide | assumption | omega)
                      have b2 : Y5.cell? ⟨W12.heap.size, 2, none⟩ = some (.int .i64 p2) := (show World.rowIs Y5 (W12.heap.size) 26 (4) (v4i p0 p1 p2 (.slice oh KF KF)) from RF.out.one 1 (by simp)).cell (i := 2) (show 2 < 4 by first | decide | assumption | omega)
                      have b3 : Y5.cell? ⟨W12.heap.size, 3, none⟩ = some (.slice oh KF KF) := (show World.rowIs Y5 (W12.heap.size) 26 (4) (v4i p0 p1 p2 (.slice oh KF KF)) from RF.out.one 1 (by simp)).cell (i := 3) (show 3 < 4 by first | decide | assumption | omega)
                      have lb : W12.heap.size < Y5.heap.size := (show World.rowIs Y5 (W12.heap.size) 26 (4) (v4i p0 p1 p2 (.slice oh KF KF)) from RF.out.one 1 (by simp)).lt
                      have d0 : Y5.cell? ⟨Y3.heap.size, 0, none⟩ = some (.int .i64 p0) := (show World.rowIs Y5 (Y3.heap.size) 26 (4) (v4i p0 p1 p2 (.slice od KF KF)) from RF.out.one 0 (by simp)).cell (i := 0) (show 0 < 4 by first | decide | assumption | omega)
                      have d1 : Y5.cell? ⟨Y3.heap.size, 1, none⟩ = some (.int .i64 p1) := (show World.rowIs Y5 (Y3.heap.size) 26 (4) (v4i p0 p1 p2 (.slice od KF KF)) from RF.out.one 0 (by simp)).cell (i := 1) (show 1 < 4 by first | decide | assumption | omega)
                      have d2 : Y5.cell? ⟨Y3.heap.size, 2, none⟩ = some (.int .i64 p2) := (show World.rowIs Y5 (Y3.heap.size) 26 (4) (v4i p0 p1 p2 (.slice od KF KF)) from RF.out.one 0 (by simp)).cell (i := 2) (show 2 < 4 by first | decide | assumption | omega)
                      have d3 : Y5.cell? ⟨Y3.heap.size, 3, none⟩ = some (.slice od KF KF) := (show World.rowIs Y5 (Y3.heap.size) 26 (4) (v4i p0 p1 p2 (.slice od KF KF)) from RF.out.one 0 (by simp)).cell (i := 3) (show 3 < 4 by first | decide | assumption | omega)
                      have ld : Y3.heap.size < Y5.heap.size := (show World.rowIs Y5 (Y3.heap.size) 26 (4) (v4i p0 p1 p2 (.slice od KF KF)) from RF.out.one 0 (by simp)).lt
                      go_wp2_with fail
                      refine (same_counts (n := KF) (V := Z) (GOh.out.rd KF) HD5.out (by omega)).mono ?_
                      rintro e Y6 ⟨rfl, hb⟩
                      have HEND := Lib.hid (HE.out.trans (hb.mono HE.out.size))
                      clear hb b0 b1 b2 b3 lb d0 d1 d2 d3 ld
                      go_wp2
                      go_ret
                      exact ⟨rfl, HEND.out⟩

end Go.Proofs.Ytjmhnmlmnlefaaa
