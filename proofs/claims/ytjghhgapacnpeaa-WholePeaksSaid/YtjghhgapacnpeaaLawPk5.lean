/-
  The innermost body.
-/
import Derived.Test.YtjghhgapacnpeaaLawPk0
import Derived.Deep.RegionHeld3
import Derived.IntWalk
import Derived.Deep.DeepCutAuto
namespace Go.Proofs.Ytjghhgapacnpeaa
open Go.RowKit Go.Lib Go.Proofs
attribute [local irreducible] World.setCell
set_option linter.unusedSimpArgs false
set_option linter.unusedVariables false


set_option maxHeartbeats 16000000 in
set_option maxRecDepth 100000 in
theorem pk_inner {w wr : World} {b0 b1 b2 m0 m1 m2 L gc gx gm gv N vc i q p0 p1 p2 : Nat} {lev x : Int} {f : Nat → Int} {d : Array Pk} {Q0 : Exit → Act → World → Prop} {c0 c1 c2 c3 c4 c5 c6 c10 c11 c12 c13 c14 c16 c20 c21 c22 c23 c24 c25 c26 c27 c28 c29 c30 c31 c32 c33 c34 c35 c36 c37 c38 c39 c40 c41 c42 c43 c44 c45 c46 c47 c48 c49 c50 c51 c52 c53 c54 c55 c56 c57 c58 c59 c60 c61 c62 c63 c64 c65 c66 c67 c68 c69 c70 c71 c72 c73 c74 c75 c76 c77 c78 c79 c80 c81 c82 c83 c84 c85 c86 c87 c88 c89 c90 c91 c92 c93 c94 c95 c96 c97 c98 c99 c100 c101 c102 c103 c104 c105 c106 c107 c108 c109 c110 c111 c112 c113 c114 c115 c116 c117 c118 c119 c120 c121 c122 c123 c124 c125 c126 c127 c128 c129 c130 c131 c132 c133 c134 c135 c136 c137 c138 c139 c140 c141 c142 c143 c144 c145 c146 c147 c148 c149 c150 c151 c152 c153 c154 c155 c156 c157 c158 c159 c160 c161 c162 c163 c164 c165 c166 c167 c168 c169 c170 c171 c172 c173 c174 c175 c176 c177 c178 c179 c180 c181 c182 c183 c184 c185 c186 c187 c188 c189 c190 c191 c192 c193 c194 c195 c196 c197 c198 c199 c200 c201 c202 c203 c204 c205 c206 c207 c208 c209 c210 c211 c212 c213 c214 c215 c216 c217 c218 c219 c220 c221 c222 c223 c224 c225 c226 c227 c228 c229 c230 c231 c232 c233 c234 c235 c236 c237 c238 c239 c240 c241 c242 c243 c244 c245 c246 c247 c248 c249 c250 c251 c252 c253 c254 c255 c256 c257 c258 c259 c260 : Value} {u v2 t2 : Int} (hu1 : -1 ≤ u) (hu2 : u ≤ 1) (hv1 : -1 ≤ v2) (hv2 : v2 ≤ 1) (ht1 : -1 ≤ t2) (ht2 : t2 ≤ 2) (hps : PS w [⟨gc, 49, 4, v4 m0 m1 m2 (.slice (some ⟨gx, 0, none⟩) L L)⟩, ⟨gx, 3, L, fun i => .int .i64 (f i)⟩, ⟨gm, 30, 3, v3 m0 m1 m2⟩, ⟨w.heap.size, 44, 3, u3 b0 b1 b2⟩] (.slice (some ⟨gv, 0, none⟩) N vc) d wr) (K : PkF L N i q p0 p1 p2 m0 m1 m2 lev x f d)
    (hnext : t2 ≤ 1 → ∀ (u20 u210 u211 u212 u213 u214 u215 u216 u217 u218 u219 u220 u221 u222 u223 u224 u225 u226 u227 u228 u229 u230 u231 u232 u233 u234 u235 u236 u237 u238 u239 u240 u241 u242 u243 u244 u245 u246 u247 u248 u249 u250 u251 u252 u253 u254 u255 u256 u257 u258 u259 u260 : Value) (W' : World), PS w [⟨gc, 49, 4, v4 m0 m1 m2 (.slice (some ⟨gx, 0, none⟩) L L)⟩, ⟨gx, 3, L, fun i => .int .i64 (f i)⟩, ⟨gm, 30, 3, v3 m0 m1 m2⟩, ⟨w.heap.size, 44, 3, u3 b0 b1 b2⟩] (.slice (some ⟨gv, 0, none⟩) N vc) d W' → Q0 .normal ⟨#[c0, c1, c2, c3, c4, c5, c6, .pointer (some ⟨gm, 0, none⟩), .pointer (some ⟨gc, 0, none⟩), .slice (some ⟨gv, 0, none⟩) N vc, c10, c11, c12, c13, c14, .int .i64 i, c16, .int .i64 u, .int .i64 v2, .int .i64 (t2 + 1), u20, c21, c22, c23, c24, c25, c26, c27, c28, c29, c30, c31, c32, c33, c34, c35, c36, c37, c38, c39, c40, c41, c42, c43, c44, c45, c46, c47, c48, c49, c50, c51, c52, c53, c54, c55, c56, c57, c58, c59, c60, c61, c62, c63, c64, c65, c66, c67, c68, c69, c70, c71, c72, c73, c74, c75, c76, c77, c78, c79, c80, c81, c82, c83, c84, c85, c86, c87, c88, c89, c90, c91, c92, c93, c94, c95, c96, c97, c98, c99, c100, c101, c102, c103, c104, c105, c106, c107, c108, c109, c110, c111, c112, c113, c114, c115, c116, c117, c118, c119, c120, c121, c122, c123, c124, c125, c126, c127, c128, c129, c130, c131, c132, c133, c134, c135, c136, c137, c138, c139, c140, c141, c142, c143, c144, c145, c146, c147, c148, c149, c150, c151, c152, c153, c154, c155, c156, c157, c158, c159, c160, c161, c162, c163, c164, c165, c166, c167, c168, c169, c170, c171, c172, c173, c174, c175, c176, c177, c178, c179, c180, c181, c182, c183, c184, c185, c186, c187, c188, c189, c190, c191, c192, c193, c194, c195, c196, c197, c198, c199, c200, c201, c202, c203, c204, c205, c206, c207, c208, c209, u210, u211, u212, u213, u214, u215, u216, u217, u218, u219, u220, u221, u222, u223, u224, u225, u226, u227, u228, u229, u230, u231, u232, u233, u234, u235, u236, u237, u238, u239, u240, u241, u242, u243, u244, u245, u246, u247, u248, u249, u250, u251, u252, u253, u254, u255, u256, u257, u258, u259, u260], []⟩ W')
    (hexit : ¬ t2 ≤ 1 → ∀ (u210 u211 : Value), Q0 (.exit 8) ⟨#[c0, c1, c2, c3, c4, c5, c6, .pointer (some ⟨gm, 0, none⟩), .pointer (some ⟨gc, 0, none⟩), .slice (some ⟨gv, 0, none⟩) N vc, c10, c11, c12, c13, c14, .int .i64 i, c16, .int .i64 u, .int .i64 v2, .int .i64 t2, c20, c21, c22, c23, c24, c25, c26, c27, c28, c29, c30, c31, c32, c33, c34, c35, c36, c37, c38, c39, c40, c41, c42, c43, c44, c45, c46, c47, c48, c49, c50, c51, c52, c53, c54, c55, c56, c57, c58, c59, c60, c61, c62, c63, c64, c65, c66, c67, c68, c69, c70, c71, c72, c73, c74, c75, c76, c77, c78, c79, c80, c81, c82, c83, c84, c85, c86, c87, c88, c89, c90, c91, c92, c93, c94, c95, c96, c97, c98, c99, c100, c101, c102, c103, c104, c105, c106, c107, c108, c109, c110, c111, c112, c113, c114, c115, c116, c117, c118, c119, c120, c121, c122, c123, c124, c125, c126, c127, c128, c129, c130, c131, c132, c133, c134, c135, c136, c137, c138, c139, c140, c141, c142, c143, c144, c145, c146, c147, c148, c149, c150, c151, c152, c153, c154, c155, c156, c157, c158, c159, c160, c161, c162, c163, c164, c165, c166, c167, c168, c169, c170, c171, c172, c173, c174, c175, c176, c177, c178, c179, c180, c181, c182, c183, c184, c185, c186, c187, c188, c189, c190, c191, c192, c193, c194, c195, c196, c197, c198, c199, c200, c201, c202, c203, c204, c205, c206, c207, c208, c209, u210, u211, c212, c213, c214, c215, c216, c217, c218, c219, c220, c221, c222, c223, c224, c225, c226, c227, c228, c229, c230, c231, c232, c233, c234, c235, c236, c237, c238, c239, c240, c241, c242, c243, c244, c245, c246, c247, c248, c249, c250, c251, c252, c253, c254, c255, c256, c257, c258, c259, c260], []⟩ wr) :
    Code.wp Try.prog (bodyK 4) Q0 ⟨#[c0, c1, c2, c3, c4, c5, c6, .pointer (some ⟨gm, 0, none⟩), .pointer (some ⟨gc, 0, none⟩), .slice (some ⟨gv, 0, none⟩) N vc, c10, c11, c12, c13, c14, .int .i64 i, c16, .int .i64 u, .int .i64 v2, .int .i64 t2, c20, c21, c22, c23, c24, c25, c26, c27, c28, c29, c30, c31, c32, c33, c34, c35, c36, c37, c38, c39, c40, c41, c42, c43, c44, c45, c46, c47, c48, c49, c50, c51, c52, c53, c54, c55, c56, c57, c58, c59, c60, c61, c62, c63, c64, c65, c66, c67, c68, c69, c70, c71, c72, c73, c74, c75, c76, c77, c78, c79, c80, c81, c82, c83, c84, c85, c86, c87, c88, c89, c90, c91, c92, c93, c94, c95, c96, c97, c98, c99, c100, c101, c102, c103, c104, c105, c106, c107, c108, c109, c110, c111, c112, c113, c114, c115, c116, c117, c118, c119, c120, c121, c122, c123, c124, c125, c126, c127, c128, c129, c130, c131, c132, c133, c134, c135, c136, c137, c138, c139, c140, c141, c142, c143, c144, c145, c146, c147, c148, c149, c150, c151, c152, c153, c154, c155, c156, c157, c158, c159, c160, c161, c162, c163, c164, c165, c166, c167, c168, c169, c170, c171, c172, c173, c174, c175, c176, c177, c178, c179, c180, c181, c182, c183, c184, c185, c186, c187, c188, c189, c190, c191, c192, c193, c194, c195, c196, c197, c198, c199, c200, c201, c202, c203, c204, c205, c206, c207, c208, c209, c210, c211, c212, c213, c214, c215, c216, c217, c218, c219, c220, c221, c222, c223, c224, c225, c226, c227, c228, c229, c230, c231, c232, c233, c234, c235, c236, c237, c238, c239, c240, c241, c242, c243, c244, c245, c246, c247, c248, c249, c250, c251, c252, c253, c254, c255, c256, c257, c258, c259, c260], []⟩ wr := by
  conv => arg 2; whnf
  have HP := Lib.hid hps; have KN := Lib.hid K
  clear hps K
  have EN := Lib.hid KN.out.en; have EL := Lib.hid KN.out.el; have ED := Lib.hid KN.out.ed; have EX := Lib.hid KN.out.ex; have PB := Lib.hid KN.out.pb
  have hiN := KN.out.hi; have hN := KN.out.nl; have hL := KN.out.ll; have hq := KN.out.hq
  have hil : (i : Int) < (N : Int) := by omega
  have hi12 : (i : Int) < 12 := by omega
  have HX := Lib.hid hexit; have HN := Lib.hid hnext
  clear hexit hnext
  by_cases ht3 : t2 ≤ 1
  · have BB := Lib.hid (And.intro (at0_lt (EL.out ▸ hq : q < m0 * m1 * m2)) (And.intro (at1_lt (n2 := m2) (i := q) PB.out.2.1.1) (at2_lt (i := q) PB.out.2.2.1)))
    have hnb := Lib.hid (show ∀ s, nb m0 m1 m2 q s = enc m1 m2 (wr1 m0 p0 (s / 9)) (wr1 m1 p1 (s / 3 % 3)) (wr1 m2 p2 (s % 3)) by intro s; rw [← KN.out.at0, ← KN.out.at1, ← KN.out.at2]; rfl)
    obtain ⟨q0, q1, q2, j, A0, A1, A2, l0, l1, l2, ej, jl, jle⟩ := near KN.out.pk PB.out.1.1 PB.out.2.1.1 PB.out.2.2.1 hnb.out u v2 t2 ⟨hu1, hu2⟩ ⟨hv1, hv2⟩ ⟨ht1, ht3⟩
    rw [← EL.out] at jl
    rw [← EX.out] at jle
    clear hnb
    have C0 := Lib.hid (fun w' => among_nat ((p0 : Int) + u) m0 q0 w' PB.out.1.1 PB.out.1.2 A0)
    have C1 := Lib.hid (fun w' => among_nat ((p1 : Int) + v2) m1 q1 w' PB.out.2.1.1 PB.out.2.1.2 A1)
    have C2 := Lib.hid (fun w' => among_nat ((p2 : Int) + t2) m2 q2 w' PB.out.2.2.1 PB.out.2.2.2 A2)
    have CN := Lib.hid (fun w' => spot_nat m0 m1 m2 q0 q1 q2 j w' PB.out.2.1.2 PB.out.2.2.2 (by have := PB.out; omega) (by have := PB.out; omega) (by have := PB.out; omega) ej)
    have P192 := PB.out; have PBB := BB.out; have e0 := KN.out.at0; have e1 := KN.out.at1; have e2 := KN.out.at2
    have bp0 : (p0 : Int) < 192 := by omega
    have bp1 : (p1 : Int) < 192 := by omega
    have bp2 : (p2 : Int) < 192 := by omega
    clear P192 PBB BB e0 e1 e2
    have sm0 : IntKind.i64.wrap ((p0 : Int) + u) = (p0 : Int) + u := IntWalk.i64_in _ (by omega)
    have sm1 : IntKind.i64.wrap ((p1 : Int) + v2) = (p1 : Int) + v2 := IntWalk.i64_in _ (by omega)
    have sm2 : IntKind.i64.wrap ((p2 : Int) + t2) = (p2 : Int) + t2 := IntWalk.i64_in _ (by omega)
    have JL := Lib.hid jl; have JLE := Lib.hid jle
    clear A0 A1 A2 l0 l1 l2 ej jl jle
    obtain ⟨lvs, s0, s1, s2, s3⟩ := HP.out.pk.at (t := i) (by rw [← EN.out]; omega)
    rw [ED.out] at s0 s1 s2 s3
    change wr.cell? _ = some (.int .i64 (f q)) at s3
    rw [← EX.out] at s3
    change wr.cell? _ = some (.int .i64 (at0 m1 m2 q : Nat)) at s0
    change wr.cell? _ = some (.int .i64 (at1 m1 m2 q : Nat)) at s1
    change wr.cell? _ = some (.int .i64 (at2 m2 q : Nat)) at s2
    rw [KN.out.at0] at s0
    rw [KN.out.at1] at s1
    rw [KN.out.at2] at s2
    have y0 : wr.cell? ⟨gm, 0, none⟩ = some (.int .i64 m0) := (show World.rowIs wr (gm) 30 (3) (v3 m0 m1 m2) from HP.out.has.one 2 (by simp)).cell (i := 0) (show 0 < 3 by decide)
    have y1 : wr.cell? ⟨gm, 1, none⟩ = some (.int .i64 m1) := (show World.rowIs wr (gm) 30 (3) (v3 m0 m1 m2) from HP.out.has.one 2 (by simp)).cell (i := 1) (show 1 < 3 by decide)
    have y2 : wr.cell? ⟨gm, 2, none⟩ = some (.int .i64 m2) := (show World.rowIs wr (gm) 30 (3) (v3 m0 m1 m2) from HP.out.has.one 2 (by simp)).cell (i := 2) (show 2 < 3 by decide)
    have ly : gm < wr.heap.size := (show World.rowIs wr (gm) 30 (3) (v3 m0 m1 m2) from HP.out.has.one 2 (by simp)).lt
    have gvl : gv < wr.heap.size := lvs
    clear lvs s3
    go_upto_region 34 with (fail)
    go_cut [20] from 214 to 247 (fun sl wx => ∃ go : Nat, sl = .pointer (some ⟨go, 0, none⟩) ∧ PS w [⟨gc, 49, 4, v4 m0 m1 m2 (.slice (some ⟨gx, 0, none⟩) L L)⟩, ⟨gx, 3, L, fun i => .int .i64 (f i)⟩, ⟨gm, 30, 3, v3 m0 m1 m2⟩, ⟨w.heap.size, 44, 3, u3 b0 b1 b2⟩] (.slice (some ⟨gv, 0, none⟩) N vc) d wx ∧ wx.rowIs go 30 3 (v3 q0 q1 q2))
    case first =>
      go_region_held3 (fun w' => Below wr.heap.size wr w' ∧ ∀ b o, b < wr.heap.size → w'.cell? ⟨b, o, none⟩ = wr.cell? ⟨b, o, none⟩) ((first | assumption | exact ⟨by assumption, by assumption⟩ | exact sb_of (by (repeat (first | assumption | exact And.left (by assumption) | exact Below.refl _ _ | refine below_drewN ?_ _ | refine Below.setCell ?_ (by first | (simp; done) | omega | (simp; omega)) _ | refine Below.alloc ?_ (by first | (simp; done) | omega | (simp; omega)) _ | refine Below.drew ?_))))) (first | (go_at_call 22; with_reducible refine (C0.out _).mono ?_; rintro e w9 ⟨rfl, rfl⟩) | (go_at_call 22; with_reducible refine (C1.out _).mono ?_; rintro e w9 ⟨rfl, rfl⟩) | (go_at_call 22; with_reducible refine (C2.out _).mono ?_; rintro e w9 ⟨rfl, rfl⟩))
      all_goals
        go_wp2
        go_meet
        first
          | exact ⟨_, rfl, HP.out.step (show Below wr.heap.size wr _ by (repeat (first | assumption | exact And.left (by assumption) | exact Below.refl _ _ | refine below_drewN ?_ _ | refine Below.setCell ?_ (by first | (simp; done) | omega | (simp; omega)) _ | refine Below.alloc ?_ (by first | (simp; done) | omega | (simp; omega)) _ | refine Below.drew ?_))), v3_row wr q0 q1 q2⟩
          | exact ⟨_, rfl, HP.out.step (show Below wr.heap.size wr _ by (repeat (first | assumption | exact And.left (by assumption) | exact Below.refl _ _ | refine below_drewN ?_ _ | refine Below.setCell ?_ (by first | (simp; done) | omega | (simp; omega)) _ | refine Below.alloc ?_ (by first | (simp; done) | omega | (simp; omega)) _ | refine Below.drew ?_))), v3_set (v3_row wr 0 0 0)⟩
    case rest =>
      obtain ⟨go, rfl, hps, hrow⟩ := hcut
      have HPO := Lib.hid hps
      have o0 : wc.cell? ⟨go, 0, none⟩ = some (.int .i64 q0) := hrow.cell (i := 0) (by decide)
      have o1 : wc.cell? ⟨go, 1, none⟩ = some (.int .i64 q1) := hrow.cell (i := 1) (by decide)
      have o2 : wc.cell? ⟨go, 2, none⟩ = some (.int .i64 q2) := hrow.cell (i := 2) (by decide)
      have lo : go < wc.heap.size := hrow.lt
      clear hps hrow y0 y1 y2 ly s0 s1 s2 gvl C0 C1 C2
      obtain ⟨lvs, s0, s1, s2, s3⟩ := HPO.out.pk.at (t := i) (by rw [← EN.out]; omega)
      rw [ED.out] at s0 s1 s2 s3
      change wc.cell? _ = some (.int .i64 (f q)) at s3
      rw [← EX.out] at s3
      clear s0 s1 s2
      obtain ⟨y, ey⟩ : ∃ y, y = f j := ⟨_, rfl⟩
      have fj : wc.cell? ⟨gx, j, none⟩ = some (.int .i64 y) := by rw [ey]; exact (show World.rowIs wc (gx) 3 (L) (fun i => .int .i64 (f i)) from HPO.out.has.one 1 (by simp)).cell JL.out
      have yx : decide (x < y) = false := decide_eq_false (by rw [ey]; exact Int.not_lt.2 JLE.out)
      clear ey
      have y0 : wc.cell? ⟨gm, 0, none⟩ = some (.int .i64 m0) := (show World.rowIs wc (gm) 30 (3) (v3 m0 m1 m2) from HPO.out.has.one 2 (by simp)).cell (i := 0) (show 0 < 3 by decide)
      have y1 : wc.cell? ⟨gm, 1, none⟩ = some (.int .i64 m1) := (show World.rowIs wc (gm) 30 (3) (v3 m0 m1 m2) from HPO.out.has.one 2 (by simp)).cell (i := 1) (show 1 < 3 by decide)
      have y2 : wc.cell? ⟨gm, 2, none⟩ = some (.int .i64 m2) := (show World.rowIs wc (gm) 30 (3) (v3 m0 m1 m2) from HPO.out.has.one 2 (by simp)).cell (i := 2) (show 2 < 3 by decide)
      have ly : gm < wc.heap.size := (show World.rowIs wc (gm) 30 (3) (v3 m0 m1 m2) from HPO.out.has.one 2 (by simp)).lt
      have x3 : wc.cell? ⟨gc, 3, none⟩ = some (.slice (some ⟨gx, 0, none⟩) L L) := (show World.rowIs wc (gc) 49 (4) (v4 m0 m1 m2 (.slice (some ⟨gx, 0, none⟩) L L)) from HPO.out.has.one 0 (by simp)).cell (i := 3) (show 3 < 4 by first | decide | assumption | omega)
      have lx : gc < wc.heap.size := (show World.rowIs wc (gc) 49 (4) (v4 m0 m1 m2 (.slice (some ⟨gx, 0, none⟩) L L)) from HPO.out.has.one 0 (by simp)).lt
      have lxx : gx < wc.heap.size := (show World.rowIs wc (gx) 3 (L) (fun i => .int .i64 (f i)) from HPO.out.has.one 1 (by simp)).lt
      have jL : (j : Int) < (L : Int) := by have := JL.out; omega
      go_wp2
      refine region_all (by kernel_rfl) (by kernel_rfl) ?_
      repeat (go_big_quiet_step ((go_at_call 21; with_reducible exact held_of _ (Nat.le_refl _) (CN.out _))))
      refine wpQuiet_nil ?_
      rintro w8 ⟨⟨w0, hb⟩, rfl⟩
      have HP8 := Lib.hid (HPO.out.step hb)
      clear hb y0 y1 y2 ly o0 o1 o2 lo x3 lx lxx fj s3 lvs
      go_wp2
      exact HN.out ht3 _ _ _ _ _ _ _ _ _ _ _ _ _ _ _ _ _ _ _ _ _ _ _ _ _ _ _ _ _ _ _ _ _ _ _ _ _ _ _ _ _ _ _ _ _ _ _ _ _ _ _ _ w8 HP8.out
  · go_wp2
    exact HX.out ht3 _ _
end Go.Proofs.Ytjghhgapacnpeaa
