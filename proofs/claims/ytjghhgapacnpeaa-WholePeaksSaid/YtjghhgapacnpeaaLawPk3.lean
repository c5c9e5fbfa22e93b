/-
  The three loops.
-/
import Derived.Test.YtjghhgapacnpeaaLawPk5
namespace Go.Proofs.Ytjghhgapacnpeaa
open Go.RowKit Go.Lib Go.Proofs
attribute [local irreducible] World.setCell
set_option linter.unusedSimpArgs false
set_option linter.unusedVariables false


set_option maxHeartbeats 16000000 in
set_option maxRecDepth 100000 in
theorem pk_loops {w wr : World} {b0 b1 b2 m0 m1 m2 L gc gx gm gv N vc i q p0 p1 p2 : Nat} {lev x : Int} {f : Nat → Int} {d : Array Pk} {Q0 : Exit → Act → World → Prop} {c0 c1 c2 c3 c4 c5 c6 c10 c11 c12 c13 c14 c16 c18 c19 c20 c21 c22 c23 c24 c25 c26 c27 c28 c29 c30 c31 c32 c33 c34 c35 c36 c37 c38 c39 c40 c41 c42 c43 c44 c45 c46 c47 c48 c49 c50 c51 c52 c53 c54 c55 c56 c57 c58 c59 c60 c61 c62 c63 c64 c65 c66 c67 c68 c69 c70 c71 c72 c73 c74 c75 c76 c77 c78 c79 c80 c81 c82 c83 c84 c85 c86 c87 c88 c89 c90 c91 c92 c93 c94 c95 c96 c97 c98 c99 c100 c101 c102 c103 c104 c105 c106 c107 c108 c109 c110 c111 c112 c113 c114 c115 c116 c117 c118 c119 c120 c121 c122 c123 c124 c125 c126 c127 c128 c129 c130 c131 c132 c133 c134 c135 c136 c137 c138 c139 c140 c141 c142 c143 c144 c145 c146 c147 c148 c149 c150 c151 c152 c153 c154 c155 c156 c157 c158 c159 c160 c161 c162 c163 c164 c165 c166 c167 c168 c169 c170 c171 c172 c173 c174 c175 c176 c177 c178 c179 c180 c181 c182 c183 c184 c185 c186 c187 c188 c189 c190 c191 c192 c193 c194 c195 c196 c197 c198 c199 c200 c201 c202 c203 c204 c205 c206 c207 c208 c209 c210 c211 c212 c213 c214 c215 c216 c217 c218 c219 c220 c221 c222 c223 c224 c225 c226 c227 c228 c229 c230 c231 c232 c233 c234 c235 c236 c237 c238 c239 c240 c241 c242 c243 c244 c245 c246 c247 c248 c249 c250 c251 c252 c253 c254 c255 c256 c257 c258 c259 c260 : Value} (hps : PS w [⟨gc, 49, 4, v4 m0 m1 m2 (.slice (some ⟨gx, 0, none⟩) L L)⟩, ⟨gx, 3, L, fun i => .int .i64 (f i)⟩, ⟨gm, 30, 3, v3 m0 m1 m2⟩, ⟨w.heap.size, 44, 3, u3 b0 b1 b2⟩] (.slice (some ⟨gv, 0, none⟩) N vc) d wr) (K : PkF L N i q p0 p1 p2 m0 m1 m2 lev x f d)
    (hexit : ∀ (u6 u17 u18 u19 u20 u202 u203 u204 u205 u206 u207 u208 u209 u210 u211 u212 u213 u214 u215 u216 u217 u218 u219 u220 u221 u222 u223 u224 u225 u226 u227 u228 u229 u230 u231 u232 u233 u234 u235 u236 u237 u238 u239 u240 u241 u242 u243 u244 u245 u246 u247 u248 u249 u250 u251 u252 u253 u254 u255 u256 u257 u258 u259 u260 : Value) (W' : World), PS w [⟨gc, 49, 4, v4 m0 m1 m2 (.slice (some ⟨gx, 0, none⟩) L L)⟩, ⟨gx, 3, L, fun i => .int .i64 (f i)⟩, ⟨gm, 30, 3, v3 m0 m1 m2⟩, ⟨w.heap.size, 44, 3, u3 b0 b1 b2⟩] (.slice (some ⟨gv, 0, none⟩) N vc) d W' → Q0 (.exit 4) ⟨#[c0, c1, c2, c3, c4, c5, u6, .pointer (some ⟨gm, 0, none⟩), .pointer (some ⟨gc, 0, none⟩), .slice (some ⟨gv, 0, none⟩) N vc, c10, c11, c12, c13, c14, .int .i64 i, c16, u17, u18, u19, u20, c21, c22, c23, c24, c25, c26, c27, c28, c29, c30, c31, c32, c33, c34, c35, c36, c37, c38, c39, c40, c41, c42, c43, c44, c45, c46, c47, c48, c49, c50, c51, c52, c53, c54, c55, c56, c57, c58, c59, c60, c61, c62, c63, c64, c65, c66, c67, c68, c69, c70, c71, c72, c73, c74, c75, c76, c77, c78, c79, c80, c81, c82, c83, c84, c85, c86, c87, c88, c89, c90, c91, c92, c93, c94, c95, c96, c97, c98, c99, c100, c101, c102, c103, c104, c105, c106, c107, c108, c109, c110, c111, c112, c113, c114, c115, c116, c117, c118, c119, c120, c121, c122, c123, c124, c125, c126, c127, c128, c129, c130, c131, c132, c133, c134, c135, c136, c137, c138, c139, c140, c141, c142, c143, c144, c145, c146, c147, c148, c149, c150, c151, c152, c153, c154, c155, c156, c157, c158, c159, c160, c161, c162, c163, c164, c165, c166, c167, c168, c169, c170, c171, c172, c173, c174, c175, c176, c177, c178, c179, c180, c181, c182, c183, c184, c185, c186, c187, c188, c189, c190, c191, c192, c193, c194, c195, c196, c197, c198, c199, c200, c201, u202, u203, u204, u205, u206, u207, u208, u209, u210, u211, u212, u213, u214, u215, u216, u217, u218, u219, u220, u221, u222, u223, u224, u225, u226, u227, u228, u229, u230, u231, u232, u233, u234, u235, u236, u237, u238, u239, u240, u241, u242, u243, u244, u245, u246, u247, u248, u249, u250, u251, u252, u253, u254, u255, u256, u257, u258, u259, u260], []⟩ W') :
    Code.wp Try.prog (Code.loop (bodyK 2)) Q0 ⟨#[c0, c1, c2, c3, c4, c5, c6, .pointer (some ⟨gm, 0, none⟩), .pointer (some ⟨gc, 0, none⟩), .slice (some ⟨gv, 0, none⟩) N vc, c10, c11, c12, c13, c14, .int .i64 i, c16, .int .i64 (-1), c18, c19, c20, c21, c22, c23, c24, c25, c26, c27, c28, c29, c30, c31, c32, c33, c34, c35, c36, c37, c38, c39, c40, c41, c42, c43, c44, c45, c46, c47, c48, c49, c50, c51, c52, c53, c54, c55, c56, c57, c58, c59, c60, c61, c62, c63, c64, c65, c66, c67, c68, c69, c70, c71, c72, c73, c74, c75, c76, c77, c78, c79, c80, c81, c82, c83, c84, c85, c86, c87, c88, c89, c90, c91, c92, c93, c94, c95, c96, c97, c98, c99, c100, c101, c102, c103, c104, c105, c106, c107, c108, c109, c110, c111, c112, c113, c114, c115, c116, c117, c118, c119, c120, c121, c122, c123, c124, c125, c126, c127, c128, c129, c130, c131, c132, c133, c134, c135, c136, c137, c138, c139, c140, c141, c142, c143, c144, c145, c146, c147, c148, c149, c150, c151, c152, c153, c154, c155, c156, c157, c158, c159, c160, c161, c162, c163, c164, c165, c166, c167, c168, c169, c170, c171, c172, c173, c174, c175, c176, c177, c178, c179, c180, c181, c182, c183, c184, c185, c186, c187, c188, c189, c190, c191, c192, c193, c194, c195, c196, c197, c198, c199, c200, c201, c202, c203, c204, c205, c206, c207, c208, c209, c210, c211, c212, c213, c214, c215, c216, c217, c218, c219, c220, c221, c222, c223, c224, c225, c226, c227, c228, c229, c230, c231, c232, c233, c234, c235, c236, c237, c238, c239, c240, c241, c242, c243, c244, c245, c246, c247, c248, c249, c250, c251, c252, c253, c254, c255, c256, c257, c258, c259, c260], []⟩ wr := by
  conv => arg 2; arg 1; whnf
  dsimp only
  have HP := Lib.hid hps; have KN := Lib.hid K; have HX := Lib.hid hexit
  clear hps K hexit
  go_loopw [17] (fun y wr => ∃ u : Int, -1 ≤ u ∧ u ≤ 2 ∧ y = .int .i64 u ∧ PS w [⟨gc, 49, 4, v4 m0 m1 m2 (.slice (some ⟨gx, 0, none⟩) L L)⟩, ⟨gx, 3, L, fun i => .int .i64 (f i)⟩, ⟨gm, 30, 3, v3 m0 m1 m2⟩, ⟨w.heap.size, 44, 3, u3 b0 b1 b2⟩] (.slice (some ⟨gv, 0, none⟩) N vc) d wr) (fun y _ => (2 - RowKit.intOf y).toNat)
  case atStart => exact ⟨-1, by omega, by omega, rfl, HP.out⟩
  case round =>
    clear HP
    obtain ⟨u, hu1, hu2, rfl, hps⟩ := hrel
    have HPu := Lib.hid hps
    clear hps
    skip
    by_cases hu3 : u ≤ 1
    · have zu := hu3
      go_wp2
      go_loopw [18] (fun y wr => ∃ u : Int, -1 ≤ u ∧ u ≤ 2 ∧ y = .int .i64 u ∧ PS w [⟨gc, 49, 4, v4 m0 m1 m2 (.slice (some ⟨gx, 0, none⟩) L L)⟩, ⟨gx, 3, L, fun i => .int .i64 (f i)⟩, ⟨gm, 30, 3, v3 m0 m1 m2⟩, ⟨w.heap.size, 44, 3, u3 b0 b1 b2⟩] (.slice (some ⟨gv, 0, none⟩) N vc) d wr) (fun y _ => (2 - RowKit.intOf y).toNat)
      case atStart => exact ⟨-1, by omega, by omega, rfl, HPu.out⟩
      case round =>
        clear HPu
        obtain ⟨v2, hv21, hv22, rfl, hps⟩ := hrel
        have HPv2 := Lib.hid hps
        clear hps
        skip
        by_cases hv23 : v2 ≤ 1
        · have zv2 := hv23
          go_wp2
          go_loopw [19] (fun y wr => ∃ u : Int, -1 ≤ u ∧ u ≤ 2 ∧ y = .int .i64 u ∧ PS w [⟨gc, 49, 4, v4 m0 m1 m2 (.slice (some ⟨gx, 0, none⟩) L L)⟩, ⟨gx, 3, L, fun i => .int .i64 (f i)⟩, ⟨gm, 30, 3, v3 m0 m1 m2⟩, ⟨w.heap.size, 44, 3, u3 b0 b1 b2⟩] (.slice (some ⟨gv, 0, none⟩) N vc) d wr) (fun y _ => (2 - RowKit.intOf y).toNat)
          case atStart => exact ⟨-1, by omega, by omega, rfl, HPv2.out⟩
          case round =>
            clear HPv2
            obtain ⟨t2, ht21, ht22, rfl, hps⟩ := hrel
            have HPt2 := Lib.hid hps
            clear hps
            skip
            refine pk_inner hu1 zu hv21 zv2 ht21 ht22 HPt2.out KN.out ?_ ?_
            · intro ht3 u20 u210 u211 u212 u213 u214 u215 u216 u217 u218 u219 u220 u221 u222 u223 u224 u225 u226 u227 u228 u229 u230 u231 u232 u233 u234 u235 u236 u237 u238 u239 u240 u241 u242 u243 u244 u245 u246 u247 u248 u249 u250 u251 u252 u253 u254 u255 u256 u257 u258 u259 u260 W5 hps5
              have HP5 := Lib.hid hps5
              clear hps5
              dsimp only
              go_roundw
              case rel => (repeat apply Exists.intro); exact ⟨⟨t2 + 1, by omega, by omega, rfl, HP5.out⟩, rfl⟩
              case measure => simp [RowKit.intOf]; omega
            · intro ht3 u210 u211
              go_wp2
              go_roundw
              case rel => exact ⟨v2 + 1, by omega, by omega, rfl, HPt2.out⟩
              case measure => simp [RowKit.intOf]; omega
        · go_wp2
          go_roundw
          case rel => exact ⟨u + 1, by omega, by omega, rfl, HPv2.out⟩
          case measure => simp [RowKit.intOf]; omega
    · go_wp2
      exact HX.out _ _ _ _ _ _ _ _ _ _ _ _ _ _ _ _ _ _ _ _ _ _ _ _ _ _ _ _ _ _ _ _ _ _ _ _ _ _ _ _ _ _ _ _ _ _ _ _ _ _ _ _ _ _ _ _ _ _ _ _ _ _ _ _ _ HPu.out
end Go.Proofs.Ytjghhgapacnpeaa
