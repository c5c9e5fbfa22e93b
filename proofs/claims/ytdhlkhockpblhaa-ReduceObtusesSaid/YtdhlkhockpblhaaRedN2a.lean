/-
  DocObtuse: one step more.
-/
import Derived.Test.YtdhlkhockpblhaaRedN2w
namespace Go.Proofs.Ytdhlkhockpblhaa
open Go.RowKit
attribute [local irreducible] World.setCell

set_option linter.unusedSimpArgs false
set_option linter.unusedVariables false

set_option maxHeartbeats 6400000 in
set_option maxRecDepth 100000 in
theorem DocObtuse_A (mk mn : Met) (pk q pn : Mt) (k bf : Nat) (hkb : (k : Int) < 4611686018427387904) (w wr : World) (c0 c13 c20 c21 c22 u4 u5 u10 u11 u12 u23 u24 u25 u26 u27 u28 u29 u30 u31 u32 u33 u34 u35 u36 u37 u38 u39 u40 : Value) (hlq : w.heap.size + 1 + 1 < bf) (hRH : Has [⟨bf, 87, 16, lv (F16 mk)⟩, ⟨bf + 1, 26, 9, lv (F9 pk)⟩, ⟨w.heap.size + 1, 23, 6, lv Z6⟩, ⟨w.heap.size + 1 + 1, 26, 9, lv Z9⟩] wr) (hHB : Below w.heap.size w wr) (hRS : ∀ w, Calls Try.prog 41 #[.agg #[.int .i64 (lf mk 0), .int .i64 (lf mk 1), .int .i64 (lf mk 2), .int .i64 (lf mk 3), .int .i64 (lf mk 4), .int .i64 (lf mk 5), .int .i64 (lf mk 6), .int .i64 (lf mk 7), .int .i64 (lf mk 8), .int .i64 (lf mk 9), .int .i64 (lf mk 10), .int .i64 (lf mk 11), .int .i64 (lf mk 12), .int .i64 (lf mk 13), .int .i64 (lf mk 14), .int .i64 (lf mk 15)]] w fun e w' => e = .returned (.tuple #[.agg #[.int .i64 (lf mn 0), .int .i64 (lf mn 1), .int .i64 (lf mn 2), .int .i64 (lf mn 3), .int .i64 (lf mn 4), .int .i64 (lf mn 5), .int .i64 (lf mn 6), .int .i64 (lf mn 7), .int .i64 (lf mn 8), .int .i64 (lf mn 9), .int .i64 (lf mn 10), .int .i64 (lf mn 11), .int .i64 (lf mn 12), .int .i64 (lf mn 13), .int .i64 (lf mn 14), .int .i64 (lf mn 15)], .agg #[.int .i64 q.p00, .int .i64 q.p01, .int .i64 q.p02, .int .i64 q.p10, .int .i64 q.p11, .int .i64 q.p12, .int .i64 q.p20, .int .i64 q.p21, .int .i64 q.p22], .bool true]) ∧ Below w.heap.size w w') (hTP : ∀ w, Calls Try.prog 45 #[.agg #[.int .i64 pk.p00, .int .i64 pk.p01, .int .i64 pk.p02, .int .i64 pk.p10, .int .i64 pk.p11, .int .i64 pk.p12, .int .i64 pk.p20, .int .i64 pk.p21, .int .i64 pk.p22], .agg #[.int .i64 q.p00, .int .i64 q.p01, .int .i64 q.p02, .int .i64 q.p10, .int .i64 q.p11, .int .i64 q.p12, .int .i64 q.p20, .int .i64 q.p21, .int .i64 q.p22]] w fun e w' => e = .returned (.agg #[.int .i64 pn.p00, .int .i64 pn.p01, .int .i64 pn.p02, .int .i64 pn.p10, .int .i64 pn.p11, .int .i64 pn.p12, .int .i64 pn.p20, .int .i64 pn.p21, .int .i64 pn.p22]) ∧ Below w.heap.size w w') (G : Act → World → Prop) (Q0 : Exit → Act → World → Prop)
    (hG : ∀ (u10 u11 u12 u23 u24 u25 u26 u27 u28 u29 u30 u31 u32 u33 u34 u35 u36 u37 u38 u39 u40 : Value) (X : World), Has [⟨bf, 87, 16, lv (F16 mn)⟩, ⟨bf + 1, 26, 9, lv (F9 pn)⟩, ⟨w.heap.size + 1, 23, 6, lv Z6⟩, ⟨w.heap.size + 1 + 1, 26, 9, lv Z9⟩] X → Below w.heap.size w X → G ⟨#[c0, .pointer (some ⟨w.heap.size, 0, none⟩), .pointer (some ⟨w.heap.size + 1, 0, none⟩), .pointer (some ⟨w.heap.size + 1 + 1, 0, none⟩), u4, u5, .int .i64 0, .pointer (some ⟨bf, 0, none⟩), .pointer (some ⟨bf + 1, 0, none⟩), .int .i64 ((k : Int) + 1), u10, u11, u12, c13, .int .i64 0, .int .i64 0, .bool false, undef, undef, undef, c20, c21, c22, u23, u24, u25, u26, u27, u28, u29, u30, u31, u32, u33, u34, u35, u36, u37, u38, u39, u40], []⟩ X) :
    Code.wp Try.prog ((Try.f14.body.bind firstLoop).getD .skip) (Exit.then G Q0) ⟨#[c0, .pointer (some ⟨w.heap.size, 0, none⟩), .pointer (some ⟨w.heap.size + 1, 0, none⟩), .pointer (some ⟨w.heap.size + 1 + 1, 0, none⟩), u4, u5, .int .i64 0, .pointer (some ⟨bf, 0, none⟩), .pointer (some ⟨bf + 1, 0, none⟩), .int .i64 k, u10, u11, u12, c13, .int .i64 0, .int .i64 0, .bool false, undef, undef, undef, c20, c21, c22, u23, u24, u25, u26, u27, u28, u29, u30, u31, u32, u33, u34, u35, u36, u37, u38, u39, u40], []⟩ wr := by
  conv => arg 2; whnf
  have RS := Lib.hid hRS
  have RH := Lib.hid hRH; have HB := Lib.hid hHB
  have hwb := hHB.size
  clear hRS hRH hHB
  have f0 : wr.cell? ⟨bf, 0, none⟩ = some (.int .i64 (lf mk 0)) := (show World.rowIs wr (bf) 87 (16) (lv (F16 mk)) from RH.out.one 0 (by simp)).cell (i := 0) (show 0 < 16 by first | decide | assumption | omega)
  have f1 : wr.cell? ⟨bf, 1, none⟩ = some (.int .i64 (lf mk 1)) := (show World.rowIs wr (bf) 87 (16) (lv (F16 mk)) from RH.out.one 0 (by simp)).cell (i := 1) (show 1 < 16 by first | decide | assumption | omega)
  have f2 : wr.cell? ⟨bf, 2, none⟩ = some (.int .i64 (lf mk 2)) := (show World.rowIs wr (bf) 87 (16) (lv (F16 mk)) from RH.out.one 0 (by simp)).cell (i := 2) (show 2 < 16 by first | decide | assumption | omega)
  have f3 : wr.cell? ⟨bf, 3, none⟩ = some (.int .i64 (lf mk 3)) := (show World.rowIs wr (bf) 87 (16) (lv (F16 mk)) from RH.out.one 0 (by simp)).cell (i := 3) (show 3 < 16 by first | decide | assumption | omega)
  have f4 : wr.cell? ⟨bf, 4, none⟩ = some (.int .i64 (lf mk 4)) := (show World.rowIs wr (bf) 87 (16) (lv (F16 mk)) from RH.out.one 0 (by simp)).cell (i := 4) (show 4 < 16 by first | decide | assumption | omega)
  have f5 : wr.cell? ⟨bf, 5, none⟩ = some (.int .i64 (lf mk 5)) := (show World.rowIs wr (bf) 87 (16) (lv (F16 mk)) from RH.out.one 0 (by simp)).cell (i := 5) (show 5 < 16 by first | decide | assumption | omega)
  have f6 : wr.cell? ⟨bf, 6, none⟩ = some (.int .i64 (lf mk 6)) := (show World.rowIs wr (bf) 87 (16) (lv (F16 mk)) from RH.out.one 0 (by simp)).cell (i := 6) (show 6 < 16 by first | decide | assumption | omega)
  have f7 : wr.cell? ⟨bf, 7, none⟩ = some (.int .i64 (lf mk 7)) := (show World.rowIs wr (bf) 87 (16) (lv (F16 mk)) from RH.out.one 0 (by simp)).cell (i := 7) (show 7 < 16 by first | decide | assumption | omega)
  have f8 : wr.cell? ⟨bf, 8, none⟩ = some (.int .i64 (lf mk 8)) := (show World.rowIs wr (bf) 87 (16) (lv (F16 mk)) from RH.out.one 0 (by simp)).cell (i := 8) (show 8 < 16 by first | decide | assumption | omega)
  have f9 : wr.cell? ⟨bf, 9, none⟩ = some (.int .i64 (lf mk 9)) := (show World.rowIs wr (bf) 87 (16) (lv (F16 mk)) from RH.out.one 0 (by simp)).cell (i := 9) (show 9 < 16 by first | decide | assumption | omega)
  have f10 : wr.cell? ⟨bf, 10, none⟩ = some (.int .i64 (lf mk 10)) := (show World.rowIs wr (bf) 87 (16) (lv (F16 mk)) from RH.out.one 0 (by simp)).cell (i := 10) (show 10 < 16 by first | decide | assumption | omega)
  have f11 : wr.cell? ⟨bf, 11, none⟩ = some (.int .i64 (lf mk 11)) := (show World.rowIs wr (bf) 87 (16) (lv (F16 mk)) from RH.out.one 0 (by simp)).cell (i := 11) (show 11 < 16 by first | decide | assumption | omega)
  have f12 : wr.cell? ⟨bf, 12, none⟩ = some (.int .i64 (lf mk 12)) := (show World.rowIs wr (bf) 87 (16) (lv (F16 mk)) from RH.out.one 0 (by simp)).cell (i := 12) (show 12 < 16 by first | decide | assumption | omega)
  have f13 : wr.cell? ⟨bf, 13, none⟩ = some (.int .i64 (lf mk 13)) := (show World.rowIs wr (bf) 87 (16) (lv (F16 mk)) from RH.out.one 0 (by simp)).cell (i := 13) (show 13 < 16 by first | decide | assumption | omega)
  have f14 : wr.cell? ⟨bf, 14, none⟩ = some (.int .i64 (lf mk 14)) := (show World.rowIs wr (bf) 87 (16) (lv (F16 mk)) from RH.out.one 0 (by simp)).cell (i := 14) (show 14 < 16 by first | decide | assumption | omega)
  have f15 : wr.cell? ⟨bf, 15, none⟩ = some (.int .i64 (lf mk 15)) := (show World.rowIs wr (bf) 87 (16) (lv (F16 mk)) from RH.out.one 0 (by simp)).cell (i := 15) (show 15 < 16 by first | decide | assumption | omega)
  have zlf : bf < wr.heap.size := (show World.rowIs wr (bf) 87 (16) (lv (F16 mk)) from RH.out.one 0 (by simp)).lt
  go_wp2_with fail
  refine (RS.out _).mono ?_
  rintro e ws ⟨rfl, hbs⟩
  clear f0 f1 f2 f3 f4 f5 f6 f7 f8 f9 f10 f11 f12 f13 f14 f15 zlf
  have hbx := hbs
  replace RH := Lib.hid (show Has [⟨bf, 87, 16, lv (F16 mk)⟩, ⟨bf + 1, 26, 9, lv (F9 pk)⟩, ⟨w.heap.size + 1, 23, 6, lv Z6⟩, ⟨w.heap.size + 1 + 1, 26, 9, lv Z9⟩] ws from RH.out.step hbx)
  replace HB := Lib.hid (HB.out.trans (hbx.mono HB.out.size))
  clear hbx hbs
  go_wp2
  have t1 : World.rowIs ((ws.alloc (.cells #[.int .i64 (lf mn 0), .int .i64 (lf mn 1), .int .i64 (lf mn 2), .int .i64 (lf mn 3), .int .i64 (lf mn 4), .int .i64 (lf mn 5), .int .i64 (lf mn 6), .int .i64 (lf mn 7), .int .i64 (lf mn 8), .int .i64 (lf mn 9), .int .i64 (lf mn 10), .int .i64 (lf mn 11), .int .i64 (lf mn 12), .int .i64 (lf mn 13), .int .i64 (lf mn 14), .int .i64 (lf mn 15)] 87)).alloc (.cells #[.int .i64 q.p00, .int .i64 q.p01, .int .i64 q.p02, .int .i64 q.p10, .int .i64 q.p11, .int .i64 q.p12, .int .i64 q.p20, .int .i64 q.p21, .int .i64 q.p22] 26)) (ws.heap.size + 1) 26 9 (lv (F9 q)) := by
    have := alloc_lv (ws.alloc (.cells #[.int .i64 (lf mn 0), .int .i64 (lf mn 1), .int .i64 (lf mn 2), .int .i64 (lf mn 3), .int .i64 (lf mn 4), .int .i64 (lf mn 5), .int .i64 (lf mn 6), .int .i64 (lf mn 7), .int .i64 (lf mn 8), .int .i64 (lf mn 9), .int .i64 (lf mn 10), .int .i64 (lf mn 11), .int .i64 (lf mn 12), .int .i64 (lf mn 13), .int .i64 (lf mn 14), .int .i64 (lf mn 15)] 87)) (F9 q) 26
    simp only [World.size_alloc] at this
    exact this
  have t2 : World.rowIs ((ws.alloc (.cells #[.int .i64 (lf mn 0), .int .i64 (lf mn 1), .int .i64 (lf mn 2), .int .i64 (lf mn 3), .int .i64 (lf mn 4), .int .i64 (lf mn 5), .int .i64 (lf mn 6), .int .i64 (lf mn 7), .int .i64 (lf mn 8), .int .i64 (lf mn 9), .int .i64 (lf mn 10), .int .i64 (lf mn 11), .int .i64 (lf mn 12), .int .i64 (lf mn 13), .int .i64 (lf mn 14), .int .i64 (lf mn 15)] 87)).alloc (.cells #[.int .i64 q.p00, .int .i64 q.p01, .int .i64 q.p02, .int .i64 q.p10, .int .i64 q.p11, .int .i64 q.p12, .int .i64 q.p20, .int .i64 q.p21, .int .i64 q.p22] 26)) ws.heap.size 87 16 (lv (F16 mn)) := (alloc_lv ws (F16 mn) 87).alloc _
  refine wp_abs (fun X => Has [⟨ws.heap.size, 87, 16, lv (F16 mn)⟩, ⟨ws.heap.size + 1, 26, 9, lv (F9 q)⟩, ⟨bf, 87, 16, lv (F16 mk)⟩, ⟨bf + 1, 26, 9, lv (F9 pk)⟩, ⟨w.heap.size + 1, 23, 6, lv Z6⟩, ⟨w.heap.size + 1 + 1, 26, 9, lv Z9⟩] X ∧ Below w.heap.size w X) ⟨.cons t2 (.cons t1 (RH.out.step (show Below ws.heap.size ws ((ws.alloc (.cells #[.int .i64 (lf mn 0), .int .i64 (lf mn 1), .int .i64 (lf mn 2), .int .i64 (lf mn 3), .int .i64 (lf mn 4), .int .i64 (lf mn 5), .int .i64 (lf mn 6), .int .i64 (lf mn 7), .int .i64 (lf mn 8), .int .i64 (lf mn 9), .int .i64 (lf mn 10), .int .i64 (lf mn 11), .int .i64 (lf mn 12), .int .i64 (lf mn 13), .int .i64 (lf mn 14), .int .i64 (lf mn 15)] 87)).alloc (.cells #[.int .i64 q.p00, .int .i64 q.p01, .int .i64 q.p02, .int .i64 q.p10, .int .i64 q.p11, .int .i64 q.p12, .int .i64 q.p20, .int .i64 q.p21, .int .i64 q.p22] 26)) from (by repeat (first | assumption | exact Below.refl _ _ | refine below_drewN ?_ _ | refine Below.drew ?_ | refine Below.alloc ?_ (by first | (simp; done) | (simp; omega) | omega) _ | refine Below.setCell ?_ (by first | (simp; done) | (simp; omega) | omega) _))))), HB.out.trans (Below.mono (show Below ws.heap.size ws ((ws.alloc (.cells #[.int .i64 (lf mn 0), .int .i64 (lf mn 1), .int .i64 (lf mn 2), .int .i64 (lf mn 3), .int .i64 (lf mn 4), .int .i64 (lf mn 5), .int .i64 (lf mn 6), .int .i64 (lf mn 7), .int .i64 (lf mn 8), .int .i64 (lf mn 9), .int .i64 (lf mn 10), .int .i64 (lf mn 11), .int .i64 (lf mn 12), .int .i64 (lf mn 13), .int .i64 (lf mn 14), .int .i64 (lf mn 15)] 87)).alloc (.cells #[.int .i64 q.p00, .int .i64 q.p01, .int .i64 q.p02, .int .i64 q.p10, .int .i64 q.p11, .int .i64 q.p12, .int .i64 q.p20, .int .i64 q.p21, .int .i64 q.p22] 26)) from (by repeat (first | assumption | exact Below.refl _ _ | refine below_drewN ?_ _ | refine Below.drew ?_ | refine Below.alloc ?_ (by first | (simp; done) | (simp; omega) | omega) _ | refine Below.setCell ?_ (by first | (simp; done) | (simp; omega) | omega) _))) HB.out.size)⟩ ?_
  intro V hX
  have lws := (show World.rowIs ws bf 87 16 (lv (F16 mk)) from RH.out.one 0 (by simp)).lt
  have lws2 := (show World.rowIs ws (bf + 1) 26 9 (lv (F9 pk)) from RH.out.one 1 (by simp)).lt
  have R1 := Lib.hid hX.1; have B1 := Lib.hid hX.2
  clear hX RH HB t1 t2
  have RH := R1; have HB := B1
  clear R1 B1
  have g0 : V.cell? ⟨ws.heap.size, 0, none⟩ = some (.int .i64 (lf mn 0)) := (show World.rowIs V (ws.heap.size) 87 (16) (lv (F16 mn)) from RH.out.one 0 (by simp)).cell (i := 0) (show 0 < 16 by first | decide | assumption | omega)
  have g1 : V.cell? ⟨ws.heap.size, 1, none⟩ = some (.int .i64 (lf mn 1)) := (show World.rowIs V (ws.heap.size) 87 (16) (lv (F16 mn)) from RH.out.one 0 (by simp)).cell (i := 1) (show 1 < 16 by first | decide | assumption | omega)
  have g2 : V.cell? ⟨ws.heap.size, 2, none⟩ = some (.int .i64 (lf mn 2)) := (show World.rowIs V (ws.heap.size) 87 (16) (lv (F16 mn)) from RH.out.one 0 (by simp)).cell (i := 2) (show 2 < 16 by first | decide | assumption | omega)
  have g3 : V.cell? ⟨ws.heap.size, 3, none⟩ = some (.int .i64 (lf mn 3)) := (show World.rowIs V (ws.heap.size) 87 (16) (lv (F16 mn)) from RH.out.one 0 (by simp)).cell (i := 3) (show 3 < 16 by first | decide | assumption | omega)
  have g4 : V.cell? ⟨ws.heap.size, 4, none⟩ = some (.int .i64 (lf mn 4)) := (show World.rowIs V (ws.heap.size) 87 (16) (lv (F16 mn)) from RH.out.one 0 (by simp)).cell (i := 4) (show 4 < 16 by first | decide | assumption | omega)
  have g5 : V.cell? ⟨ws.heap.size, 5, none⟩ = some (.int .i64 (lf mn 5)) := (show World.rowIs V (ws.heap.size) 87 (16) (lv (F16 mn)) from RH.out.one 0 (by simp)).cell (i := 5) (show 5 < 16 by first | decide | assumption | omega)
  have g6 : V.cell? ⟨ws.heap.size, 6, none⟩ = some (.int .i64 (lf mn 6)) := (show World.rowIs V (ws.heap.size) 87 (16) (lv (F16 mn)) from RH.out.one 0 (by simp)).cell (i := 6) (show 6 < 16 by first | decide | assumption | omega)
  have g7 : V.cell? ⟨ws.heap.size, 7, none⟩ = some (.int .i64 (lf mn 7)) := (show World.rowIs V (ws.heap.size) 87 (16) (lv (F16 mn)) from RH.out.one 0 (by simp)).cell (i := 7) (show 7 < 16 by first | decide | assumption | omega)
  have g8 : V.cell? ⟨ws.heap.size, 8, none⟩ = some (.int .i64 (lf mn 8)) := (show World.rowIs V (ws.heap.size) 87 (16) (lv (F16 mn)) from RH.out.one 0 (by simp)).cell (i := 8) (show 8 < 16 by first | decide | assumption | omega)
  have g9 : V.cell? ⟨ws.heap.size, 9, none⟩ = some (.int .i64 (lf mn 9)) := (show World.rowIs V (ws.heap.size) 87 (16) (lv (F16 mn)) from RH.out.one 0 (by simp)).cell (i := 9) (show 9 < 16 by first | decide | assumption | omega)
  have g10 : V.cell? ⟨ws.heap.size, 10, none⟩ = some (.int .i64 (lf mn 10)) := (show World.rowIs V (ws.heap.size) 87 (16) (lv (F16 mn)) from RH.out.one 0 (by simp)).cell (i := 10) (show 10 < 16 by first | decide | assumption | omega)
  have g11 : V.cell? ⟨ws.heap.size, 11, none⟩ = some (.int .i64 (lf mn 11)) := (show World.rowIs V (ws.heap.size) 87 (16) (lv (F16 mn)) from RH.out.one 0 (by simp)).cell (i := 11) (show 11 < 16 by first | decide | assumption | omega)
  have g12 : V.cell? ⟨ws.heap.size, 12, none⟩ = some (.int .i64 (lf mn 12)) := (show World.rowIs V (ws.heap.size) 87 (16) (lv (F16 mn)) from RH.out.one 0 (by simp)).cell (i := 12) (show 12 < 16 by first | decide | assumption | omega)
  have g13 : V.cell? ⟨ws.heap.size, 13, none⟩ = some (.int .i64 (lf mn 13)) := (show World.rowIs V (ws.heap.size) 87 (16) (lv (F16 mn)) from RH.out.one 0 (by simp)).cell (i := 13) (show 13 < 16 by first | decide | assumption | omega)
  have g14 : V.cell? ⟨ws.heap.size, 14, none⟩ = some (.int .i64 (lf mn 14)) := (show World.rowIs V (ws.heap.size) 87 (16) (lv (F16 mn)) from RH.out.one 0 (by simp)).cell (i := 14) (show 14 < 16 by first | decide | assumption | omega)
  have g15 : V.cell? ⟨ws.heap.size, 15, none⟩ = some (.int .i64 (lf mn 15)) := (show World.rowIs V (ws.heap.size) 87 (16) (lv (F16 mn)) from RH.out.one 0 (by simp)).cell (i := 15) (show 15 < 16 by first | decide | assumption | omega)
  have lg : ws.heap.size < V.heap.size := (show World.rowIs V (ws.heap.size) 87 (16) (lv (F16 mn)) from RH.out.one 0 (by simp)).lt
  have p0 : V.cell? ⟨bf + 1, 0, none⟩ = some (.int .i64 pk.p00) := (show World.rowIs V (bf + 1) 26 (9) (lv (F9 pk)) from RH.out.one 3 (by simp)).cell (i := 0) (show 0 < 9 by first | decide | assumption | omega)
  have p1 : V.cell? ⟨bf + 1, 1, none⟩ = some (.int .i64 pk.p01) := (show World.rowIs V (bf + 1) 26 (9) (lv (F9 pk)) from RH.out.one 3 (by simp)).cell (i := 1) (show 1 < 9 by first | decide | assumption | omega)
  have p2 : V.cell? ⟨bf + 1, 2, none⟩ = some (.int .i64 pk.p02) := (show World.rowIs V (bf + 1) 26 (9) (lv (F9 pk)) from RH.out.one 3 (by simp)).cell (i := 2) (show 2 < 9 by first | decide | assumption | omega)
  have p3 : V.cell? ⟨bf + 1, 3, none⟩ = some (.int .i64 pk.p10) := (show World.rowIs V (bf + 1) 26 (9) (lv (F9 pk)) from RH.out.one 3 (by simp)).cell (i := 3) (show 3 < 9 by first | decide | assumption | omega)
  have p4 : V.cell? ⟨bf + 1, 4, none⟩ = some (.int .i64 pk.p11) := (show World.rowIs V (bf + 1) 26 (9) (lv (F9 pk)) from RH.out.one 3 (by simp)).cell (i := 4) (show 4 < 9 by first | decide | assumption | omega)
  have p5 : V.cell? ⟨bf + 1, 5, none⟩ = some (.int .i64 pk.p12) := (show World.rowIs V (bf + 1) 26 (9) (lv (F9 pk)) from RH.out.one 3 (by simp)).cell (i := 5) (show 5 < 9 by first | decide | assumption | omega)
  have p6 : V.cell? ⟨bf + 1, 6, none⟩ = some (.int .i64 pk.p20) := (show World.rowIs V (bf + 1) 26 (9) (lv (F9 pk)) from RH.out.one 3 (by simp)).cell (i := 6) (show 6 < 9 by first | decide | assumption | omega)
  have p7 : V.cell? ⟨bf + 1, 7, none⟩ = some (.int .i64 pk.p21) := (show World.rowIs V (bf + 1) 26 (9) (lv (F9 pk)) from RH.out.one 3 (by simp)).cell (i := 7) (show 7 < 9 by first | decide | assumption | omega)
  have p8 : V.cell? ⟨bf + 1, 8, none⟩ = some (.int .i64 pk.p22) := (show World.rowIs V (bf + 1) 26 (9) (lv (F9 pk)) from RH.out.one 3 (by simp)).cell (i := 8) (show 8 < 9 by first | decide | assumption | omega)
  have lp : bf + 1 < V.heap.size := (show World.rowIs V (bf + 1) 26 (9) (lv (F9 pk)) from RH.out.one 3 (by simp)).lt
  have h0 : V.cell? ⟨ws.heap.size + 1, 0, none⟩ = some (.int .i64 q.p00) := (show World.rowIs V (ws.heap.size + 1) 26 (9) (lv (F9 q)) from RH.out.one 1 (by simp)).cell (i := 0) (show 0 < 9 by first | decide | assumption | omega)
  have h1 : V.cell? ⟨ws.heap.size + 1, 1, none⟩ = some (.int .i64 q.p01) := (show World.rowIs V (ws.heap.size + 1) 26 (9) (lv (F9 q)) from RH.out.one 1 (by simp)).cell (i := 1) (show 1 < 9 by first | decide | assumption | omega)
  have h2 : V.cell? ⟨ws.heap.size + 1, 2, none⟩ = some (.int .i64 q.p02) := (show World.rowIs V (ws.heap.size + 1) 26 (9) (lv (F9 q)) from RH.out.one 1 (by simp)).cell (i := 2) (show 2 < 9 by first | decide | assumption | omega)
  have h3 : V.cell? ⟨ws.heap.size + 1, 3, none⟩ = some (.int .i64 q.p10) := (show World.rowIs V (ws.heap.size + 1) 26 (9) (lv (F9 q)) from RH.out.one 1 (by simp)).cell (i := 3) (show 3 < 9 by first | decide | assumption | omega)
  have h4 : V.cell? ⟨ws.heap.size + 1, 4, none⟩ = some (.int .i64 q.p11) := (show World.rowIs V (ws.heap.size + 1) 26 (9) (lv (F9 q)) from RH.out.one 1 (by simp)).cell (i := 4) (show 4 < 9 by first | decide | assumption | omega)
  have h5 : V.cell? ⟨ws.heap.size + 1, 5, none⟩ = some (.int .i64 q.p12) := (show World.rowIs V (ws.heap.size + 1) 26 (9) (lv (F9 q)) from RH.out.one 1 (by simp)).cell (i := 5) (show 5 < 9 by first | decide | assumption | omega)
  have h6 : V.cell? ⟨ws.heap.size + 1, 6, none⟩ = some (.int .i64 q.p20) := (show World.rowIs V (ws.heap.size + 1) 26 (9) (lv (F9 q)) from RH.out.one 1 (by simp)).cell (i := 6) (show 6 < 9 by first | decide | assumption | omega)
  have h7 : V.cell? ⟨ws.heap.size + 1, 7, none⟩ = some (.int .i64 q.p21) := (show World.rowIs V (ws.heap.size + 1) 26 (9) (lv (F9 q)) from RH.out.one 1 (by simp)).cell (i := 7) (show 7 < 9 by first | decide | assumption | omega)
  have h8 : V.cell? ⟨ws.heap.size + 1, 8, none⟩ = some (.int .i64 q.p22) := (show World.rowIs V (ws.heap.size + 1) 26 (9) (lv (F9 q)) from RH.out.one 1 (by simp)).cell (i := 8) (show 8 < 9 by first | decide | assumption | omega)
  have lh : ws.heap.size + 1 < V.heap.size := (show World.rowIs V (ws.heap.size + 1) 26 (9) (lv (F9 q)) from RH.out.one 1 (by simp)).lt
  have TP := Lib.hid hTP
  clear hTP
  have HG := Lib.hid hG
  clear hG
  refine region_head 4 (by kernel_rfl) (by kernel_rfl) ?_
  simp only [List.take_succ_cons, List.take_zero, List.drop_succ_cons, List.drop_zero]
  repeat (go_big_quiet_step ((go_at_call 45; exact held_of _ (Nat.le_refl _) (TP.out _))))
  refine wpQuiet_nil ?_
  rintro x1 ⟨⟨w0, hb⟩, rfl⟩
  clear g0 g1 g2 g3 g4 g5 g6 g7 g8 g9 g10 g11 g12 g13 g14 g15 p0 h0 p1 h1 p2 h2 p3 h3 p4 h4 p5 h5 p6 h6 p7 h7 p8 h8 lg lp lh
  have hbx := hb
  replace RH := Lib.hid (show Has [⟨ws.heap.size, 87, 16, lv (F16 mn)⟩, ⟨ws.heap.size + 1, 26, 9, lv (F9 q)⟩, ⟨bf, 87, 16, lv (F16 mk)⟩, ⟨bf + 1, 26, 9, lv (F9 pk)⟩, ⟨w.heap.size + 1, 23, 6, lv Z6⟩, ⟨w.heap.size + 1 + 1, 26, 9, lv Z9⟩] x1 from RH.out.step hbx)
  replace HB := Lib.hid (HB.out.trans (hbx.mono HB.out.size))
  clear hbx hb
  have f0 : x1.cell? ⟨bf, 0, none⟩ = some (.int .i64 (lf mk 0)) := (show World.rowIs x1 (bf) 87 (16) (lv (F16 mk)) from RH.out.one 2 (by simp)).cell (i := 0) (show 0 < 16 by first | decide | assumption | omega)
  have f1 : x1.cell? ⟨bf, 1, none⟩ = some (.int .i64 (lf mk 1)) := (show World.rowIs x1 (bf) 87 (16) (lv (F16 mk)) from RH.out.one 2 (by simp)).cell (i := 1) (show 1 < 16 by first | decide | assumption | omega)
  have f2 : x1.cell? ⟨bf, 2, none⟩ = some (.int .i64 (lf mk 2)) := (show World.rowIs x1 (bf) 87 (16) (lv (F16 mk)) from RH.out.one 2 (by simp)).cell (i := 2) (show 2 < 16 by first | decide | assumption | omega)
  have f3 : x1.cell? ⟨bf, 3, none⟩ = some (.int .i64 (lf mk 3)) := (show World.rowIs x1 (bf) 87 (16) (lv (F16 mk)) from RH.out.one 2 (by simp)).cell (i := 3) (show 3 < 16 by first | decide | assumption | omega)
  have f4 : x1.cell? ⟨bf, 4, none⟩ = some (.int .i64 (lf mk 4)) := (show World.rowIs x1 (bf) 87 (16) (lv (F16 mk)) from RH.out.one 2 (by simp)).cell (i := 4) (show 4 < 16 by first | decide | assumption | omega)
  have f5 : x1.cell? ⟨bf, 5, none⟩ = some (.int .i64 (lf mk 5)) := (show World.rowIs x1 (bf) 87 (16) (lv (F16 mk)) from RH.out.one 2 (by simp)).cell (i := 5) (show 5 < 16 by first | decide | assumption | omega)
  have f6 : x1.cell? ⟨bf, 6, none⟩ = some (.int .i64 (lf mk 6)) := (show World.rowIs x1 (bf) 87 (16) (lv (F16 mk)) from RH.out.one 2 (by simp)).cell (i := 6) (show 6 < 16 by first | decide | assumption | omega)
  have f7 : x1.cell? ⟨bf, 7, none⟩ = some (.int .i64 (lf mk 7)) := (show World.rowIs x1 (bf) 87 (16) (lv (F16 mk)) from RH.out.one 2 (by simp)).cell (i := 7) (show 7 < 16 by first | decide | assumption | omega)
  have f8 : x1.cell? ⟨bf, 8, none⟩ = some (.int .i64 (lf mk 8)) := (show World.rowIs x1 (bf) 87 (16) (lv (F16 mk)) from RH.out.one 2 (by simp)).cell (i := 8) (show 8 < 16 by first | decide | assumption | omega)
  have f9 : x1.cell? ⟨bf, 9, none⟩ = some (.int .i64 (lf mk 9)) := (show World.rowIs x1 (bf) 87 (16) (lv (F16 mk)) from RH.out.one 2 (by simp)).cell (i := 9) (show 9 < 16 by first | decide | assumption | omega)
  have f10 : x1.cell? ⟨bf, 10, none⟩ = some (.int .i64 (lf mk 10)) := (show World.rowIs x1 (bf) 87 (16) (lv (F16 mk)) from RH.out.one 2 (by simp)).cell (i := 10) (show 10 < 16 by first | decide | assumption | omega)
  have f11 : x1.cell? ⟨bf, 11, none⟩ = some (.int .i64 (lf mk 11)) := (show World.rowIs x1 (bf) 87 (16) (lv (F16 mk)) from RH.out.one 2 (by simp)).cell (i := 11) (show 11 < 16 by first | decide | assumption | omega)
  have f12 : x1.cell? ⟨bf, 12, none⟩ = some (.int .i64 (lf mk 12)) := (show World.rowIs x1 (bf) 87 (16) (lv (F16 mk)) from RH.out.one 2 (by simp)).cell (i := 12) (show 12 < 16 by first | decide | assumption | omega)
  have f13 : x1.cell? ⟨bf, 13, none⟩ = some (.int .i64 (lf mk 13)) := (show World.rowIs x1 (bf) 87 (16) (lv (F16 mk)) from RH.out.one 2 (by simp)).cell (i := 13) (show 13 < 16 by first | decide | assumption | omega)
  have f14 : x1.cell? ⟨bf, 14, none⟩ = some (.int .i64 (lf mk 14)) := (show World.rowIs x1 (bf) 87 (16) (lv (F16 mk)) from RH.out.one 2 (by simp)).cell (i := 14) (show 14 < 16 by first | decide | assumption | omega)
  have f15 : x1.cell? ⟨bf, 15, none⟩ = some (.int .i64 (lf mk 15)) := (show World.rowIs x1 (bf) 87 (16) (lv (F16 mk)) from RH.out.one 2 (by simp)).cell (i := 15) (show 15 < 16 by first | decide | assumption | omega)
  have zlf : bf < x1.heap.size := (show World.rowIs x1 (bf) 87 (16) (lv (F16 mk)) from RH.out.one 2 (by simp)).lt
  have p0 : x1.cell? ⟨bf + 1, 0, none⟩ = some (.int .i64 pk.p00) := (show World.rowIs x1 (bf + 1) 26 (9) (lv (F9 pk)) from RH.out.one 3 (by simp)).cell (i := 0) (show 0 < 9 by first | decide | assumption | omega)
  have p1 : x1.cell? ⟨bf + 1, 1, none⟩ = some (.int .i64 pk.p01) := (show World.rowIs x1 (bf + 1) 26 (9) (lv (F9 pk)) from RH.out.one 3 (by simp)).cell (i := 1) (show 1 < 9 by first | decide | assumption | omega)
  have p2 : x1.cell? ⟨bf + 1, 2, none⟩ = some (.int .i64 pk.p02) := (show World.rowIs x1 (bf + 1) 26 (9) (lv (F9 pk)) from RH.out.one 3 (by simp)).cell (i := 2) (show 2 < 9 by first | decide | assumption | omega)
  have p3 : x1.cell? ⟨bf + 1, 3, none⟩ = some (.int .i64 pk.p10) := (show World.rowIs x1 (bf + 1) 26 (9) (lv (F9 pk)) from RH.out.one 3 (by simp)).cell (i := 3) (show 3 < 9 by first | decide | assumption | omega)
  have p4 : x1.cell? ⟨bf + 1, 4, none⟩ = some (.int .i64 pk.p11) := (show World.rowIs x1 (bf + 1) 26 (9) (lv (F9 pk)) from RH.out.one 3 (by simp)).cell (i := 4) (show 4 < 9 by first | decide | assumption | omega)
  have p5 : x1.cell? ⟨bf + 1, 5, none⟩ = some (.int .i64 pk.p12) := (show World.rowIs x1 (bf + 1) 26 (9) (lv (F9 pk)) from RH.out.one 3 (by simp)).cell (i := 5) (show 5 < 9 by first | decide | assumption | omega)
  have p6 : x1.cell? ⟨bf + 1, 6, none⟩ = some (.int .i64 pk.p20) := (show World.rowIs x1 (bf + 1) 26 (9) (lv (F9 pk)) from RH.out.one 3 (by simp)).cell (i := 6) (show 6 < 9 by first | decide | assumption | omega)
  have p7 : x1.cell? ⟨bf + 1, 7, none⟩ = some (.int .i64 pk.p21) := (show World.rowIs x1 (bf + 1) 26 (9) (lv (F9 pk)) from RH.out.one 3 (by simp)).cell (i := 7) (show 7 < 9 by first | decide | assumption | omega)
  have p8 : x1.cell? ⟨bf + 1, 8, none⟩ = some (.int .i64 pk.p22) := (show World.rowIs x1 (bf + 1) 26 (9) (lv (F9 pk)) from RH.out.one 3 (by simp)).cell (i := 8) (show 8 < 9 by first | decide | assumption | omega)
  have lp : bf + 1 < x1.heap.size := (show World.rowIs x1 (bf + 1) 26 (9) (lv (F9 pk)) from RH.out.one 3 (by simp)).lt
  have fz : ∀ o, x1.frozen? ⟨bf, o, none⟩ = false := fun o => (show World.rowIs x1 (bf) 87 (16) (lv (F16 mk)) from RH.out.one 2 (by simp)).frozen o
  have fy : ∀ o, x1.frozen? ⟨bf + 1, o, none⟩ = false := fun o => (show World.rowIs x1 (bf + 1) 26 (9) (lv (F9 pk)) from RH.out.one 3 (by simp)).frozen o
  go_wp2
  clear f0 f1 f2 f3 f4 f5 f6 f7 f8 f9 f10 f11 f12 f13 f14 f15 p0 p1 p2 p3 p4 p5 p6 p7 p8 zlf lp fz fy
  have H0 := RH.out.tail.tail
  have H1 := H0.sets (F16 mn) rfl (fun r hr => by
    rcases List.mem_cons.1 hr with rfl | hr
    · simp only; omega
    rcases List.mem_cons.1 hr with rfl | hr
    · simp only; omega
    rcases List.mem_cons.1 hr with rfl | hr
    · simp only; omega
    · exact absurd hr List.not_mem_nil)
  have H2 := H1.swap.sets (F9 pn) rfl (fun r hr => by
    rcases List.mem_cons.1 hr with rfl | hr
    · simp only; omega
    rcases List.mem_cons.1 hr with rfl | hr
    · simp only; omega
    rcases List.mem_cons.1 hr with rfl | hr
    · simp only; omega
    · exact absurd hr List.not_mem_nil)
  exact HG.out _ _ _ _ _ _ _ _ _ _ _ _ _ _ _ _ _ _ _ _ _ _ H2.swap (sets_below (F9 pn) (sets_below (F16 mn) HB.out (by omega)) (by omega))
end Go.Proofs.Ytdhlkhockpblhaa
