/-
  Small whole numbers on a grid.
-/
import Derived.Test.YtjghhgapacnpeaaMatK4
import Derived.Deep.RegionHeld3
namespace Go.Proofs.Ytjghhgapacnpeaa
open Go.RowKit Go.Lib
attribute [local irreducible] World.setCell
set_option linter.unusedSimpArgs false
set_option linter.unusedVariables false


theorem mul3 {x : Int} {s : Nat} (h : -32768 ≤ x ∧ x ≤ 32767) (hs : s ≤ 2) : -98304 ≤ x * (1 + (s : Int)) ∧ x * (1 + (s : Int)) ≤ 98304 := by
  match s, hs with
  | 0, _ => simp; omega
  | 1, _ => simp; omega
  | 2, _ => simp; omega
/-- What counts lays at a place. -/
def cf (len : Nat) (V : Nat → Int) (i : Nat) : Int := if len = 0 then 0 else V (i % len) * (1 + ((i % 3 : Nat) : Int))
theorem cf_bound {len : Nat} {V : Nat → Int} (hV : ∀ i, -32768 ≤ V i ∧ V i ≤ 32767) (i : Nat) : -98304 ≤ cf len V i ∧ cf len V i ≤ 98304 := by
  unfold cf
  split
  · omega
  · exact mul3 (hV _) (by omega)
theorem info3' : (Try.prog.info? 3).map (fun i => (i.zero, i.size, i.bytes)) = some (some (.int .i64 0), 1, 8) := by kernel_rfl
theorem mkz (n : Nat) (h : n ≤ 4194304) (w : World) : (Instr.makeSlice 47 (.int .i64 (n : Int)) (.int .i64 (n : Int))).run Try.prog w = .ok (.slice (some ⟨w.heap.size, 0, none⟩) n n) (w.alloc (.cells (madeCells #[.int .i64 0] n) 3)) :=
  run_make_row' 47 3 (.int .i64 0) 8 Try.underlying47 (by kernel_rfl) rfl .i64 .i64 n (by omega) (by omega) w
set_option maxHeartbeats 8000000 in
set_option maxRecDepth 100000 in
theorem counts16_any (n0 n1 n2 : Nat) {v : Value} {len : Nat} {V : Nat → Int} {w : World} (hR : Rd w v len (fun i => .int .i16 (V i))) (hlen : len ≤ 140737488355328) (hV : ∀ i, -32768 ≤ V i ∧ V i ≤ 32767) (h0 : 0 < n0 ∧ n0 ≤ 192) (h1 : 0 < n1 ∧ n1 ≤ 192) (h2 : 0 < n2 ∧ n2 ≤ 192) (hL : n0 * n1 * n2 ≤ 4194304) :
    Calls Try.prog 19 #[.agg #[.int .i64 n0, .int .i64 n1, .int .i64 n2], v] w fun e w' => (∃ g, e = .returned (.agg #[.int .i64 n0, .int .i64 n1, .int .i64 n2, .slice (some ⟨g, 0, none⟩) (n0 * n1 * n2) (n0 * n1 * n2)]) ∧ w.heap.size ≤ g ∧ w'.rowIs g 3 (n0 * n1 * n2) (fun i => .int .i64 (cf len V i))) ∧ Below w.heap.size w w' := by
  obtain ⟨a, cap, rfl, hv⟩ := hR
  have HV := Lib.hid hv; have HVB := Lib.hid hV
  have HLN := Lib.hid (show (len : Int) ≤ 140737488355328 by omega)
  have pb : n0 * n1 ≤ 36864 := Nat.mul_le_mul h0.2 h1.2
  obtain ⟨q, eq⟩ : ∃ q, q = n0 * n1 := ⟨_, rfl⟩
  obtain ⟨L, eL⟩ : ∃ q, q = n0 * n1 * n2 := ⟨_, rfl⟩
  have HW := Lib.hid (show IntKind.i64.wrap ((n0 : Int) * (n1 : Int)) = (q : Int) ∧ IntKind.i64.wrap ((q : Int) * (n2 : Int)) = (L : Int) from ⟨by rw [eq, ← Int.natCast_mul]; exact IntWalk.i64_in _ (by omega), by rw [eL, eq, ← Int.natCast_mul]; exact IntWalk.i64_in _ (by omega)⟩)
  rw [← eL] at hL ⊢
  have HLB := Lib.hid hL
  have hLi : (L : Int) ≤ 4194304 := by omega
  clear hv hV hlen pb eq eL hL h0 h1 h2
  go_enter Try.func19, Try.ntmps19
  go_wp2
  refine wp_abs (fun X => (Has [⟨w.heap.size, 30, 3, v3 n0 n1 n2⟩, ⟨w.heap.size + 1, 49, 4, v4 0 0 0 (.slice none 0 0)⟩] X ∧ Below w.heap.size w X) ∧ X.heap.size = w.heap.size + 1 + 1) ⟨⟨.cons ((v3_row w n0 n1 n2).alloc _) (.cons ?_ (.nil _)), (by repeat (first | assumption | exact Below.refl _ _ | refine below_drewN ?_ _ | refine Below.drew ?_ | refine Below.alloc ?_ (by first | (simp; done) | (simp; omega) | omega) _ | refine Below.setCell ?_ (by first | (simp; done) | (simp; omega) | omega) _))⟩, by simp⟩ ?_
  · have := v4_row (w.alloc (.cells #[.int .i64 n0, .int .i64 n1, .int .i64 n2] 30)) 0 0 0 (.slice none 0 0)
    simp only [World.size_alloc] at this
    exact this
  intro W1 hX
  have RH := Lib.hid hX.1.1; have HB := Lib.hid hX.1.2; have hsz := hX.2
  clear hX
  have m0 : W1.cell? ⟨w.heap.size, 0, none⟩ = some (.int .i64 n0) := (show World.rowIs W1 w.heap.size 30 3 (v3 n0 n1 n2) from RH.out.one 0 (by simp)).cell (i := 0) (show 0 < 3 by decide)
  have m1 : W1.cell? ⟨w.heap.size, 1, none⟩ = some (.int .i64 n1) := (show World.rowIs W1 w.heap.size 30 3 (v3 n0 n1 n2) from RH.out.one 0 (by simp)).cell (i := 1) (show 1 < 3 by decide)
  have m2 : W1.cell? ⟨w.heap.size, 2, none⟩ = some (.int .i64 n2) := (show World.rowIs W1 w.heap.size 30 3 (v3 n0 n1 n2) from RH.out.one 0 (by simp)).cell (i := 2) (show 2 < 3 by decide)
  have HSZ := Lib.hid hsz
  have hmk := mkz L HLB.out
  have w1 : IntKind.i64.wrap ((n0 : Int) * (n1 : Int)) = (q : Int) := HW.out.1
  have w2 : IntKind.i64.wrap ((q : Int) * (n2 : Int)) = (L : Int) := HW.out.2
  have ld : w.heap.size < W1.heap.size := by omega
  clear hsz
  apply meet
  case a =>
    intro KEY
    go_region_held3 (fun w' => w'.cell? ⟨w.heap.size, 0, none⟩ = some (.int .i64 n0) ∧ w'.cell? ⟨w.heap.size, 1, none⟩ = some (.int .i64 n1) ∧ w'.cell? ⟨w.heap.size, 2, none⟩ = some (.int .i64 n2)) ((go_split_ands; (repeat' apply And.intro) <;> (first | assumption | (go_simp; done)))) (fail)
    · refine then_abs (fun X => Has (⟨W1.heap.size, 3, L, fun _ => .int .i64 0⟩ :: ⟨W1.heap.size + 1, 49, 4, v4 n0 n1 n2 (.slice (some ⟨W1.heap.size, 0, none⟩) L L)⟩ :: [⟨w.heap.size, 30, 3, v3 n0 n1 n2⟩, ⟨w.heap.size + 1, 49, 4, v4 0 0 0 (.slice none 0 0)⟩]) X ∧ Below w.heap.size w X ∧ w.heap.size + 1 + 1 ≤ W1.heap.size ∧ w.heap.size + 1 + 1 ≤ W1.heap.size + 1 ∧ W1.heap.size ≠ W1.heap.size + 1) ⟨.cons (((W1.rowIs_made (.int .i64 0) L 3).alloc _).drew) (.cons ((show World.rowIs _ (W1.heap.size + 1) _ _ _ by
            have := v4_row (W1.alloc (.cells (madeCells #[.int .i64 0] L) 3)) n0 n1 n2 (.slice (some ⟨W1.heap.size, 0, none⟩) L L)
            simp only [World.size_alloc] at this
            exact this.drew)) (RH.out.step (show Below W1.heap.size W1 (((W1.alloc (.cells (madeCells #[.int .i64 0] L) 3)).alloc (.cells #[.int .i64 n0, .int .i64 n1, .int .i64 n2, .slice (some ⟨W1.heap.size, 0, none⟩) L L] 49)).drew) from (by repeat (first | assumption | exact Below.refl _ _ | refine below_drewN ?_ _ | refine Below.drew ?_ | refine Below.alloc ?_ (by first | (simp; done) | (simp; omega) | omega) _ | refine Below.setCell ?_ (by first | (simp; done) | (simp; omega) | omega) _))))), HB.out.trans (Below.mono (show Below W1.heap.size W1 (((W1.alloc (.cells (madeCells #[.int .i64 0] L) 3)).alloc (.cells #[.int .i64 n0, .int .i64 n1, .int .i64 n2, .slice (some ⟨W1.heap.size, 0, none⟩) L L] 49)).drew) from (by repeat (first | assumption | exact Below.refl _ _ | refine below_drewN ?_ _ | refine Below.drew ?_ | refine Below.alloc ?_ (by first | (simp; done) | (simp; omega) | omega) _ | refine Below.setCell ?_ (by first | (simp; done) | (simp; omega) | omega) _))) HB.out.size), by rw [HSZ.out]; omega, by rw [HSZ.out]; omega, by omega⟩ ?_
      generalize W1.heap.size + 1 = gc
      generalize W1.heap.size = gs
      revert gs
      revert gc
      exact KEY.out
    · refine then_abs (fun X => Has (⟨W1.heap.size + 1, 3, L, fun _ => .int .i64 0⟩ :: ⟨W1.heap.size, 49, 4, v4 n0 n1 n2 (.slice (some ⟨W1.heap.size + 1, 0, none⟩) L L)⟩ :: [⟨w.heap.size, 30, 3, v3 n0 n1 n2⟩, ⟨w.heap.size + 1, 49, 4, v4 0 0 0 (.slice none 0 0)⟩]) X ∧ Below w.heap.size w X ∧ w.heap.size + 1 + 1 ≤ W1.heap.size + 1 ∧ w.heap.size + 1 + 1 ≤ W1.heap.size ∧ W1.heap.size + 1 ≠ W1.heap.size) ⟨.cons ((show World.rowIs _ (W1.heap.size + 1) _ _ _ by
            have := (W1.alloc (.cells #[.int .i64 n0, .int .i64 n1, .int .i64 n2, .slice (some ⟨W1.heap.size + 1, 0, none⟩) L L] 49)).rowIs_made (.int .i64 0) L 3
            simp only [World.size_alloc] at this
            exact this.drew)) (.cons (((v4_row W1 n0 n1 n2 (.slice (some ⟨W1.heap.size + 1, 0, none⟩) L L)).alloc _).drew) (RH.out.step (show Below W1.heap.size W1 (((W1.alloc (.cells #[.int .i64 n0, .int .i64 n1, .int .i64 n2, .slice (some ⟨W1.heap.size + 1, 0, none⟩) L L] 49)).alloc (.cells (madeCells #[.int .i64 0] L) 3)).drew) from (by repeat (first | assumption | exact Below.refl _ _ | refine below_drewN ?_ _ | refine Below.drew ?_ | refine Below.alloc ?_ (by first | (simp; done) | (simp; omega) | omega) _ | refine Below.setCell ?_ (by first | (simp; done) | (simp; omega) | omega) _))))), HB.out.trans (Below.mono (show Below W1.heap.size W1 (((W1.alloc (.cells #[.int .i64 n0, .int .i64 n1, .int .i64 n2, .slice (some ⟨W1.heap.size + 1, 0, none⟩) L L] 49)).alloc (.cells (madeCells #[.int .i64 0] L) 3)).drew) from (by repeat (first | assumption | exact Below.refl _ _ | refine below_drewN ?_ _ | refine Below.drew ?_ | refine Below.alloc ?_ (by first | (simp; done) | (simp; omega) | omega) _ | refine Below.setCell ?_ (by first | (simp; done) | (simp; omega) | omega) _))) HB.out.size), by rw [HSZ.out]; omega, by rw [HSZ.out]; omega, by omega⟩ ?_
      generalize W1.heap.size + 1 = gs
      generalize W1.heap.size = gc
      revert gs
      revert gc
      exact KEY.out
  case b =>
    intro gc gs X hX
    obtain ⟨h1, h2, hns, hnc, hne⟩ := hX
    have RH2 := Lib.hid h1; have HB2 := Lib.hid h2
    clear h1 h2 RH HB m0 m1 m2 hmk w1 w2 ld
    simp only [Exit.then]
    have c0 : X.cell? ⟨gc, 0, none⟩ = some (.int .i64 n0) := (show World.rowIs X (gc) 49 4 (v4 n0 n1 n2 (.slice (some ⟨gs, 0, none⟩) L L)) from RH2.out.one 1 (by simp)).cell (i := 0) (show 0 < 4 by decide)
    have c1 : X.cell? ⟨gc, 1, none⟩ = some (.int .i64 n1) := (show World.rowIs X (gc) 49 4 (v4 n0 n1 n2 (.slice (some ⟨gs, 0, none⟩) L L)) from RH2.out.one 1 (by simp)).cell (i := 1) (show 1 < 4 by decide)
    have c2 : X.cell? ⟨gc, 2, none⟩ = some (.int .i64 n2) := (show World.rowIs X (gc) 49 4 (v4 n0 n1 n2 (.slice (some ⟨gs, 0, none⟩) L L)) from RH2.out.one 1 (by simp)).cell (i := 2) (show 2 < 4 by decide)
    have c3 : X.cell? ⟨gc, 3, none⟩ = some (.slice (some ⟨gs, 0, none⟩) L L) := (show World.rowIs X (gc) 49 4 (v4 n0 n1 n2 (.slice (some ⟨gs, 0, none⟩) L L)) from RH2.out.one 1 (by simp)).cell (i := 3) (show 3 < 4 by decide)
    have lc : gc < X.heap.size := (show World.rowIs X (gc) 49 4 (v4 n0 n1 n2 (.slice (some ⟨gs, 0, none⟩) L L)) from RH2.out.one 1 (by simp)).lt
    go_wp2
    clear c0 c1 c2 c3 lc
    have RH3 := Lib.hid (show Has (⟨gs, 3, L, upZ 0 (fun i => cf len V i)⟩ :: ⟨gc, 49, 4, v4 n0 n1 n2 (.slice (some ⟨gs, 0, none⟩) L L)⟩ :: [⟨w.heap.size, 30, 3, v3 n0 n1 n2⟩, ⟨w.heap.size + 1, 49, 4, v4 0 0 0 (.slice none 0 0)⟩]) X from RH2.out.congr (fun i _ => by unfold upZ; rw [if_neg (Nat.not_lt_zero _)]))
    go_loopw [6] (fun y wr => ∃ k : Nat, k ≤ L ∧ y = .int .i64 k ∧ Has (⟨gs, 3, L, upZ k (fun i => cf len V i)⟩ :: ⟨gc, 49, 4, v4 n0 n1 n2 (.slice (some ⟨gs, 0, none⟩) L L)⟩ :: [⟨w.heap.size, 30, 3, v3 n0 n1 n2⟩, ⟨w.heap.size + 1, 49, 4, v4 0 0 0 (.slice none 0 0)⟩]) wr ∧ Below w.heap.size w wr) (fun y _ => L - (RowKit.intOf y).toNat)
    case atStart => exact ⟨0, Nat.zero_le _, rfl, RH3.out, HB2.out⟩
    case round =>
      obtain ⟨k, hk, rfl, hrh, hhb⟩ := hrel
      have RHr := Lib.hid hrh; have HBr := Lib.hid hhb
      clear hrh hhb RH2 RH3 HB2
      have c0 : wr.cell? ⟨gc, 0, none⟩ = some (.int .i64 n0) := (show World.rowIs wr (gc) 49 4 (v4 n0 n1 n2 (.slice (some ⟨gs, 0, none⟩) L L)) from RHr.out.one 1 (by simp)).cell (i := 0) (show 0 < 4 by decide)
      have c1 : wr.cell? ⟨gc, 1, none⟩ = some (.int .i64 n1) := (show World.rowIs wr (gc) 49 4 (v4 n0 n1 n2 (.slice (some ⟨gs, 0, none⟩) L L)) from RHr.out.one 1 (by simp)).cell (i := 1) (show 1 < 4 by decide)
      have c2 : wr.cell? ⟨gc, 2, none⟩ = some (.int .i64 n2) := (show World.rowIs wr (gc) 49 4 (v4 n0 n1 n2 (.slice (some ⟨gs, 0, none⟩) L L)) from RHr.out.one 1 (by simp)).cell (i := 2) (show 2 < 4 by decide)
      have c3 : wr.cell? ⟨gc, 3, none⟩ = some (.slice (some ⟨gs, 0, none⟩) L L) := (show World.rowIs wr (gc) 49 4 (v4 n0 n1 n2 (.slice (some ⟨gs, 0, none⟩) L L)) from RHr.out.one 1 (by simp)).cell (i := 3) (show 3 < 4 by decide)
      have lc : gc < wr.heap.size := (show World.rowIs wr (gc) 49 4 (v4 n0 n1 n2 (.slice (some ⟨gs, 0, none⟩) L L)) from RHr.out.one 1 (by simp)).lt
      by_cases hkl : k < L ∧ 0 < len
      · obtain ⟨hkL, hlen⟩ := hkl
        have hkl : (k : Int) < (L : Int) := by omega
        have hli : (0 : Int) < (len : Int) := by omega
        have hlb : (len : Int) ≤ 140737488355328 := HLN.out
        obtain ⟨b, off, rfl, hl, hc⟩ := HV.out hlen
        obtain ⟨r, er⟩ : ∃ r, r = k % len := ⟨_, rfl⟩
        obtain ⟨s, es⟩ : ∃ r, r = k % 3 := ⟨_, rfl⟩
        obtain ⟨x, ex⟩ : ∃ x, x = V r := ⟨_, rfl⟩
        have hrl : r < len := by rw [er]; exact Nat.mod_lt _ hlen
        have hs3 : s < 3 := by rw [es]; exact Nat.mod_lt _ (by decide)
        have hr : (k : Int).tmod (len : Int) = (r : Int) := by rw [er]; rfl
        have hs : (k : Int).tmod 3 = (s : Int) := by rw [es]; rfl
        have cv : wr.cell? ⟨b, off + r, none⟩ = some (.int .i16 x) := by rw [ex]; exact (HBr.out.cell (p := ⟨b, off + r, none⟩) hl).trans (hc r hrl)
        have xb := HVB.out r
        rw [← ex] at xb
        have EX := Lib.hid (show cf len V k = x * (1 + s) by unfold cf; rw [if_neg (by omega), ← er, ← es, ex])
        obtain ⟨p, ep⟩ : ∃ p, p = x * (1 + (s : Int)) := ⟨_, rfl⟩
        have hp : -98304 ≤ p ∧ p ≤ 98304 := by rw [ep]; exact mul3 xb (by omega)
        have w1 : IntKind.i64.wrap (1 + (s : Int)) = 1 + (s : Int) := IntWalk.i64_in _ (by omega)
        have w2 : IntKind.i64.wrap (x * (1 + (s : Int))) = p := by rw [← ep]; exact IntWalk.i64_in _ (by omega)
        have w3 : IntKind.i64.wrap x = x := IntWalk.i64_in _ (by omega)
        have lb : b < wr.heap.size := Nat.lt_of_lt_of_le hl HBr.out.size
        have hrli : (r : Int) < (len : Int) := by omega
        have zl : ¬ len = 0 := by omega
        have zl2 : ¬ (len : Int) = 0 := by omega
        have fg : wr.frozen? ⟨gs, k, none⟩ = false := (show World.rowIs wr (gs) 3 L (upZ k (fun i => cf len V i)) from RHr.out.one 0 (by simp)).frozen k
        have cg : wr.cell? ⟨gs, k, none⟩ = some (upZ k (fun i => cf len V i) k) := (show World.rowIs wr (gs) 3 L (upZ k (fun i => cf len V i)) from RHr.out.one 0 (by simp)).cell hkL
        have lg := (show World.rowIs wr (gs) 3 L (upZ k (fun i => cf len V i)) from RHr.out.one 0 (by simp)).lt
        rw [← ep] at EX
        clear er es ex ep hl hc xb hp
        go_wp2
        refine region_headq 16 (by kernel_rfl) (by kernel_rfl) ?_
        simp only [List.take_succ_cons, List.take_zero, List.drop_succ_cons, List.drop_zero]
        repeat (go_big_quiet_step (fail))
        refine wpQuiet_nil ?_
        rintro _ ⟨nq, rfl⟩
        have RHd : Has (⟨gs, 3, L, upZ k (fun i => cf len V i)⟩ :: ⟨gc, 49, 4, v4 n0 n1 n2 (.slice (some ⟨gs, 0, none⟩) L L)⟩ :: [⟨w.heap.size, 30, 3, v3 n0 n1 n2⟩, ⟨w.heap.size + 1, 49, 4, v4 0 0 0 (.slice none 0 0)⟩]) (wr.drewN nq) := ⟨fun r hr => (RHr.out.all r hr).of_block rfl⟩
        have RHn := Lib.hid (show Has (⟨gs, 3, L, upZ (k + 1) (fun i => cf len V i)⟩ :: ⟨gc, 49, 4, v4 n0 n1 n2 (.slice (some ⟨gs, 0, none⟩) L L)⟩ :: [⟨w.heap.size, 30, 3, v3 n0 n1 n2⟩, ⟨w.heap.size + 1, 49, 4, v4 0 0 0 (.slice none 0 0)⟩]) ((wr.drewN nq).setCell ⟨gs, k, none⟩ (.int .i64 p)) from RHd.put k _ (fun r hr => by
            rcases List.mem_cons.1 hr with rfl | hr
            · exact fun e => hne e.symm
            rcases List.mem_cons.1 hr with rfl | hr
            · simp only; omega
            rcases List.mem_cons.1 hr with rfl | hr
            · simp only; omega
            · exact absurd hr List.not_mem_nil) (fun i _ => by
            unfold upZ
            by_cases q : i = k
            · subst q; rw [if_pos (by omega), if_pos rfl]; exact congrArg _ EX.out
            · by_cases z : i < k
              · rw [if_pos (by omega), if_neg q, if_pos z]
              · rw [if_neg (by omega), if_neg q, if_neg z]))
        have HBn := Lib.hid (show Below w.heap.size w ((wr.drewN nq).setCell ⟨gs, k, none⟩ (.int .i64 p)) from (below_drewN HBr.out nq).setCell (by simp only; omega) _)
        clear RHd RHr HBr w1 w2 w3 hr hs
        go_wp2
        go_roundw
        case rel => exact ⟨k + 1, by omega, by go_num, RHn.out, HBn.out⟩
        case measure => simp [RowKit.intOf]; omega
      · have RF := Lib.hid (show World.rowIs wr gs 3 L (fun i => .int .i64 (cf len V i)) from (show World.rowIs wr (gs) 3 L (upZ k (fun i => cf len V i)) from RHr.out.one 0 (by simp)).congr (fun i hi => by
            unfold upZ
            by_cases z : i < k
            · rw [if_pos z]
            · rw [if_neg z]; unfold cf; rw [if_pos (by omega)]))
        have r0 : wr.cell? ⟨w.heap.size + 1, 0, none⟩ = some (.int .i64 ((0 : Nat) : Int)) := (show World.rowIs wr (w.heap.size + 1) 49 4 (v4 0 0 0 (.slice none 0 0)) from RHr.out.one 3 (by simp)).cell (i := 0) (show 0 < 4 by decide)
        have r1 : wr.cell? ⟨w.heap.size + 1, 1, none⟩ = some (.int .i64 ((0 : Nat) : Int)) := (show World.rowIs wr (w.heap.size + 1) 49 4 (v4 0 0 0 (.slice none 0 0)) from RHr.out.one 3 (by simp)).cell (i := 1) (show 1 < 4 by decide)
        have r2 : wr.cell? ⟨w.heap.size + 1, 2, none⟩ = some (.int .i64 ((0 : Nat) : Int)) := (show World.rowIs wr (w.heap.size + 1) 49 4 (v4 0 0 0 (.slice none 0 0)) from RHr.out.one 3 (by simp)).cell (i := 2) (show 2 < 4 by decide)
        have r3 : wr.cell? ⟨w.heap.size + 1, 3, none⟩ = some (.slice none 0 0) := (show World.rowIs wr (w.heap.size + 1) 49 4 (v4 0 0 0 (.slice none 0 0)) from RHr.out.one 3 (by simp)).cell (i := 3) (show 3 < 4 by decide)
        have lr : w.heap.size + 1 < wr.heap.size := (show World.rowIs wr (w.heap.size + 1) 49 4 (v4 0 0 0 (.slice none 0 0)) from RHr.out.one 3 (by simp)).lt
        have f0 : wr.frozen? ⟨w.heap.size + 1, 0, none⟩ = false := (show World.rowIs wr (w.heap.size + 1) 49 4 (v4 0 0 0 (.slice none 0 0)) from RHr.out.one 3 (by simp)).frozen 0
        have f1 : wr.frozen? ⟨w.heap.size + 1, 1, none⟩ = false := (show World.rowIs wr (w.heap.size + 1) 49 4 (v4 0 0 0 (.slice none 0 0)) from RHr.out.one 3 (by simp)).frozen 1
        have f2 : wr.frozen? ⟨w.heap.size + 1, 2, none⟩ = false := (show World.rowIs wr (w.heap.size + 1) 49 4 (v4 0 0 0 (.slice none 0 0)) from RHr.out.one 3 (by simp)).frozen 2
        have f3 : wr.frozen? ⟨w.heap.size + 1, 3, none⟩ = false := (show World.rowIs wr (w.heap.size + 1) 49 4 (v4 0 0 0 (.slice none 0 0)) from RHr.out.one 3 (by simp)).frozen 3
        have hq1 : ¬ gc = w.heap.size + 1 := by omega
        have hq2 : ¬ gs = w.heap.size + 1 := by omega
        by_cases hkL : k < L
        · have hl0 : len = 0 := by omega
          subst hl0
          have hkl2 : (k : Int) < (L : Int) := by omega
          clear hkl
          go_wp2
          refine bodyPost_ret (v := .agg #[.int .i64 n0, .int .i64 n1, .int .i64 n2, .slice (some ⟨gs, 0, none⟩) L L]) (by simp [results, Try.results19, go_sem, *]) rfl ⟨⟨gs, rfl, by omega, ?_⟩, ?_⟩
          · exact (((RF.out.setOther (by first | (simp; done) | (simp; omega)) _).setOther (by first | (simp; done) | (simp; omega)) _).setOther (by first | (simp; done) | (simp; omega)) _).setOther (by first | (simp; done) | (simp; omega)) _
          · exact (((HBr.out.setCell (by simp) _).setCell (by simp) _).setCell (by simp) _).setCell (by simp) _
        · have hkl2 : ¬ (k : Int) < (L : Int) := by omega
          clear hkl hkL
          go_wp2
          refine bodyPost_ret (v := .agg #[.int .i64 n0, .int .i64 n1, .int .i64 n2, .slice (some ⟨gs, 0, none⟩) L L]) (by simp [results, Try.results19, go_sem, *]) rfl ⟨⟨gs, rfl, by omega, ?_⟩, ?_⟩
          · exact (((RF.out.setOther (by first | (simp; done) | (simp; omega)) _).setOther (by first | (simp; done) | (simp; omega)) _).setOther (by first | (simp; done) | (simp; omega)) _).setOther (by first | (simp; done) | (simp; omega)) _
          · exact (((HBr.out.setCell (by simp) _).setCell (by simp) _).setCell (by simp) _).setCell (by simp) _

end Go.Proofs.Ytjghhgapacnpeaa
