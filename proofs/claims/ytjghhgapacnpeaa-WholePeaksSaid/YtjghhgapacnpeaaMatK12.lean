/-
  patterson.Peaks.
-/
import Derived.Test.YtjghhgapacnpeaaMatK11
import Derived.Deep.RegionHeld3
namespace Go.Proofs.Ytjghhgapacnpeaa
open Go.RowKit Go.Lib Go.Proofs
attribute [local irreducible] World.setCell
set_option linter.unusedSimpArgs false
set_option linter.unusedVariables false


set_option maxHeartbeats 8000000 in
set_option maxRecDepth 100000 in
theorem peaks_any (n0 n1 n2 L bk off cap : Nat) (lev : Int) (V : Nat → Int) (w : World) (h0 : 0 < n0 ∧ n0 ≤ 192) (h1 : 0 < n1 ∧ n1 ≤ 192) (h2 : 0 < n2 ∧ n2 ≤ 192) (hL : L = n0 * n1 * n2) (hLb : L ≤ 262144) (hbk : bk < w.heap.size)
    (hV : ∀ k, k < L → w.cell? ⟨bk, off + k, none⟩ = some (.int .i64 (V k))) (few : (pks n0 n1 n2 V lev L).length ≤ 12) :
    Calls Try.prog 20 #[.agg #[.int .i64 n0, .int .i64 n1, .int .i64 n2, .slice (some ⟨bk, off, none⟩) L cap], .int .i64 lev] w fun e w' => (∃ v, e = .returned (.tuple #[v, .int .i64 0]) ∧ PkRow w' v (sorted n0 n1 n2 V lev)) ∧ Below w.heap.size w w' := by
  have HV := Lib.hid hV
  have HS := Lib.hid (And.intro h0 (And.intro h1 h2))
  have HL := Lib.hid hL
  have HFEW := Lib.hid few
  have HB := Lib.hid hbk
  have HLB := Lib.hid hLb
  obtain ⟨i0, hi, hq0, hq1, hq2⟩ := info_parts Try.info55
  have pb : n0 * n1 ≤ 36864 := Nat.mul_le_mul h0.2 h1.2
  obtain ⟨q, eq⟩ : ∃ q, q = n0 * n1 := ⟨_, rfl⟩
  have hq := congrArg (Value.int IntKind.i64) (show wrap64 ((n0 : Int) * (n1 : Int)) = (q : Int) by rw [eq, Int.natCast_mul]; exact wrap_id _ (by rw [← Int.natCast_mul]; omega) (by rw [← Int.natCast_mul]; omega))
  have hLL := congrArg (Value.int IntKind.i64) (show wrap64 ((q : Int) * (n2 : Int)) = (L : Int) by rw [hL, eq, Int.natCast_mul]; exact wrap_id _ (by rw [← Int.natCast_mul]; omega) (by rw [← Int.natCast_mul]; omega))
  have CS := Lib.hid (fun w' => sides_any n0 n1 n2 w' h0 h1 h2 (hL ▸ hLb))
  clear few hV hbk h0 h1 h2 hL hLb pb eq
  go_enter Try.func20, Try.ntmps20
  go_wp2_with fail
  refine (CS.out _).mono ?_
  rintro e X ⟨rfl, hb⟩
  have hB : Below w.heap.size w X := (alloc_below w (.cells #[.int .i64 n0, .int .i64 n1, .int .i64 n2, .slice (some ⟨bk, off, none⟩) L cap] 49)).trans (hb.mono (by simp))
  have hG := (v4_row w n0 n1 n2 (.slice (some ⟨bk, off, none⟩) L cap)).of_block (hb.block _ (by simp))
  clear hb CS
  have c0 : X.cell? ⟨w.heap.size, 0, none⟩ = some (.int .i64 n0) := (show World.rowIs X w.heap.size 49 4 (v4 n0 n1 n2 (.slice (some ⟨bk, off, none⟩) L cap)) from hG).cell (i := 0) (show 0 < 4 by decide)
  have c1 : X.cell? ⟨w.heap.size, 1, none⟩ = some (.int .i64 n1) := (show World.rowIs X w.heap.size 49 4 (v4 n0 n1 n2 (.slice (some ⟨bk, off, none⟩) L cap)) from hG).cell (i := 1) (show 1 < 4 by decide)
  have c2 : X.cell? ⟨w.heap.size, 2, none⟩ = some (.int .i64 n2) := (show World.rowIs X w.heap.size 49 4 (v4 n0 n1 n2 (.slice (some ⟨bk, off, none⟩) L cap)) from hG).cell (i := 2) (show 2 < 4 by decide)
  have c3 : X.cell? ⟨w.heap.size, 3, none⟩ = some (.slice (some ⟨bk, off, none⟩) L cap) := (show World.rowIs X w.heap.size 49 4 (v4 n0 n1 n2 (.slice (some ⟨bk, off, none⟩) L cap)) from hG).cell (i := 3) (show 3 < 4 by decide)
  have lx : w.heap.size < X.heap.size := hG.lt
  have GX := Lib.hid hG; have BX := Lib.hid hB
  clear hG hB
  go_wp2
  have hR := World.rowIs_alloc X #[.slice none 0 0] 51 (fun _ => .slice none 0 0) (fun i hi => by
    have : i = 0 := by simp at hi; omega
    subst this; rfl)
  have START := Lib.hid (show ∃ k : Nat, k ≤ L ∧ Value.int .i64 0 = .int .i64 k ∧ (∃ v, (X.alloc (.cells #[.slice none 0 0] 51)).rowIs X.heap.size 51 1 (fun _ => v) ∧ (X.alloc (.cells #[.slice none 0 0] 51)).ownsRow (X.heap.size + 1) 55 4 v (pks n0 n1 n2 V lev k).length ((pks n0 n1 n2 V lev k).flatMap Pk.cells)) ∧ (X.alloc (.cells #[.slice none 0 0] 51)).rowIs w.heap.size 49 4 (v4 n0 n1 n2 (.slice (some ⟨bk, off, none⟩) L cap)) ∧ Below w.heap.size w (X.alloc (.cells #[.slice none 0 0] 51)) from
    ⟨0, by omega, rfl, ⟨_, hR, ⟨rfl, .inl ⟨rfl, rfl⟩⟩⟩, GX.out.alloc _, BX.out.alloc (by omega) _⟩)
  have hBl : w.heap.size < X.heap.size := lx
  obtain ⟨Bl, eBl⟩ : ∃ b, b = X.heap.size := ⟨_, rfl⟩
  rw [← eBl] at START hBl
  clear c0 c1 c2 c3 hR GX BX hq hLL
  rw [← eBl]
  have lx2 : (Bl : Nat) = X.heap.size := eBl
  clear lx2 eBl lx
  go_loopw [34] (fun y wr => ∃ k : Nat, k ≤ L ∧ y = .int .i64 k ∧ (∃ v, wr.rowIs Bl 51 1 (fun _ => v) ∧ wr.ownsRow (Bl + 1) 55 4 v (pks n0 n1 n2 V lev k).length ((pks n0 n1 n2 V lev k).flatMap Pk.cells)) ∧ wr.rowIs w.heap.size 49 4 (v4 n0 n1 n2 (.slice (some ⟨bk, off, none⟩) L cap)) ∧ Below w.heap.size w wr) (fun y _ => L - (RowKit.intOf y).toNat)
  case atStart => exact START.out
  case round =>
    clear START
    obtain ⟨k, hk, rfl, ⟨v, hR, hO⟩, hG, hB⟩ := hrel

    have hbw := hB
    have c0 : wr.cell? ⟨w.heap.size, 0, none⟩ = some (.int .i64 n0) := (show World.rowIs wr w.heap.size 49 4 (v4 n0 n1 n2 (.slice (some ⟨bk, off, none⟩) L cap)) from hG).cell (i := 0) (show 0 < 4 by decide)
    have c1 : wr.cell? ⟨w.heap.size, 1, none⟩ = some (.int .i64 n1) := (show World.rowIs wr w.heap.size 49 4 (v4 n0 n1 n2 (.slice (some ⟨bk, off, none⟩) L cap)) from hG).cell (i := 1) (show 1 < 4 by decide)
    have c2 : wr.cell? ⟨w.heap.size, 2, none⟩ = some (.int .i64 n2) := (show World.rowIs wr w.heap.size 49 4 (v4 n0 n1 n2 (.slice (some ⟨bk, off, none⟩) L cap)) from hG).cell (i := 2) (show 2 < 4 by decide)
    have c3 : wr.cell? ⟨w.heap.size, 3, none⟩ = some (.slice (some ⟨bk, off, none⟩) L cap) := (show World.rowIs wr w.heap.size 49 4 (v4 n0 n1 n2 (.slice (some ⟨bk, off, none⟩) L cap)) from hG).cell (i := 3) (show 3 < 4 by decide)
    have cb : wr.cell? ⟨Bl, 0, none⟩ = some v := hR.cell (i := 0) (show 0 < 1 by decide)
    have fb : wr.frozen? ⟨Bl, 0, none⟩ = false := hR.frozen 0
    have lb : w.heap.size < wr.heap.size := hG.lt
    have lr : Bl < wr.heap.size := hR.lt
    have GR := Lib.hid hG; have RR := Lib.hid hR; have BB := Lib.hid hB; have OW := Lib.hid hO
    clear hG hR hB hO hbw
    have fin : ∀ (W : World), (W.rowIs Bl 51 1 (fun _ => v)) → True := fun _ _ => trivial
    clear fin
    by_cases hkn : k < L
    · have hki : (k : Int) < (L : Int) := by omega
      have hk26 : (k : Int) < 262144 := by have := HLB.out; omega
      have kb : bk < wr.heap.size := Nat.lt_of_lt_of_le HB.out BB.out.size
      have vk : wr.cell? ⟨bk, off + k, none⟩ = some (.int .i64 (V k)) := (BB.out.cell (p := ⟨bk, off + k, none⟩) HB.out).trans (HV.out k hkn)
      obtain ⟨x, ex⟩ : ∃ x, x = V k := ⟨_, rfl⟩
      have EX := Lib.hid ex
      rw [← ex] at vk
      clear ex
      by_cases hlev : lev < x
      · have hld : decide (lev < x) = true := decide_eq_true hlev
        have CT := Lib.hid (top_any n0 n1 n2 k L bk off cap V wr HS.out.1 HS.out.2.1 HS.out.2.2 HL.out hkn HLB.out kb (fun j hj => (BB.out.cell (p := ⟨bk, off + j, none⟩) HB.out).trans (HV.out j hj)))
        cases htb : topB n0 n1 n2 V k
        · have NO := Lib.hid (show isPk n0 n1 n2 V lev k = false by unfold isPk; rw [htb, Bool.and_false])
          rw [htb] at CT
          clear htb
          go_wp2_with (go_at_call 32; refine CT.out.mono ?_; rintro e w2 ⟨rfl, hb2⟩)
          go_roundw
          case rel => exact ⟨k + 1, by omega, by go_num, ⟨v, RR.out.of_block (hb2.block _ lr), by rw [pks_no NO.out]; exact ownsRow_below OW.out hb2⟩, GR.out.of_block (hb2.block _ lb), BB.out.trans (hb2.mono (by omega))⟩
          case measure => simp [RowKit.intOf]; omega
        · have YES := Lib.hid (show isPk n0 n1 n2 V lev k = true by unfold isPk; rw [htb, Bool.and_true]; exact decide_eq_true (EX.out ▸ hlev))
          rw [htb] at CT
          clear htb
          go_wp2_with (go_at_call 32; refine CT.out.mono ?_; rintro e w2 ⟨rfl, hb2⟩)
          have OW2 := ownsRow_below OW.out hb2
          have GR2 := GR.out.of_block (hb2.block _ lb)
          have RR2 := RR.out.of_block (hb2.block _ lr)
          have BB2 := Lib.hid (BB.out.trans (hb2.mono (by omega)))
          clear CT hb2 OW GR RR BB c0 c1 c2 c3 cb fb lb lr vk kb hlev hld
          have c0 : w2.cell? ⟨w.heap.size, 0, none⟩ = some (.int .i64 n0) := (show World.rowIs w2 w.heap.size 49 4 (v4 n0 n1 n2 (.slice (some ⟨bk, off, none⟩) L cap)) from GR2).cell (i := 0) (show 0 < 4 by decide)
          have c1 : w2.cell? ⟨w.heap.size, 1, none⟩ = some (.int .i64 n1) := (show World.rowIs w2 w.heap.size 49 4 (v4 n0 n1 n2 (.slice (some ⟨bk, off, none⟩) L cap)) from GR2).cell (i := 1) (show 1 < 4 by decide)
          have c2 : w2.cell? ⟨w.heap.size, 2, none⟩ = some (.int .i64 n2) := (show World.rowIs w2 w.heap.size 49 4 (v4 n0 n1 n2 (.slice (some ⟨bk, off, none⟩) L cap)) from GR2).cell (i := 2) (show 2 < 4 by decide)
          have cb : w2.cell? ⟨Bl, 0, none⟩ = some v := RR2.cell (i := 0) (show 0 < 1 by decide)
          have fr2 : w2.frozen? ⟨Bl, 0, none⟩ = false := RR2.frozen 0
          have lb : w.heap.size < w2.heap.size := GR2.lt
          have lr : Bl < w2.heap.size := RR2.lt
          have hne : w.heap.size ≠ Bl := by omega
          have CP := Lib.hid (fun W => place_any n0 n1 n2 k W HS.out.2.1 HS.out.2.2 (by have := HLB.out; omega))
          have EP : (pks n0 n1 n2 V lev k).length + 1 ≤ maxLen := by unfold maxLen; have := pks_le n0 n1 n2 V lev k; have := HLB.out; omega
          have EQ : ((pks n0 n1 n2 V lev k).length + 1) * 32 ≤ 140737488355328 := by have := pks_le n0 n1 n2 V lev k; have := HLB.out; omega
          have NOTB : v.ownBlock ≠ some Bl := fun e => by have := owned_ge OW2 _ e; omega
          have NOTG : v.ownBlock ≠ some w.heap.size := fun e => by have := owned_ge OW2 _ e; omega
          have EPH := Lib.hid EP; have EQH := Lib.hid EQ; clear EP EQ
          have OWH := Lib.hid OW2; have GRH := Lib.hid GR2; have RRH := Lib.hid RR2
          clear OW2 GR2 RR2
          go_region_law
            (first
              | (go_simp; go_at_call 33; refine (CP.out _).mono ?_; rintro e w3 ⟨rfl, hb3⟩; obtain ⟨hc, hf⟩ := bcell hb3; have hz := hb3.size; have OW3 := Lib.hid (ownsRow_below (OWH.out.drew) hb3); have f0 := (hb3.cell (p := ⟨w.heap.size, 0, none⟩) lb).trans c0; have f1 := (hb3.cell (p := ⟨w.heap.size, 1, none⟩) lb).trans c1; have f2 := (hb3.cell (p := ⟨w.heap.size, 2, none⟩) lb).trans c2; have f3 := (hb3.cell (p := ⟨Bl, 0, none⟩) lr).trans cb; have fr3 : w3.frozen? ⟨Bl, 0, none⟩ = false := (hb3.frozen (p := ⟨Bl, 0, none⟩) lr).trans fr2; clear hc hf; have lb3 : w.heap.size < w3.heap.size := Nat.lt_of_lt_of_le lb hz; have lr3 : Bl < w3.heap.size := Nat.lt_of_lt_of_le lr hz)
              | (refine step_append_lies _ (by rfl) _ _ _ (by rfl) (Bl + 1) 55 i0 _ 4 32 Try.underlying51 hi hq0 hq1 hq2 rfl (by omega) v (pks n0 n1 n2 V lev k).length ((pks n0 n1 n2 V lev k).flatMap Pk.cells) (by rfl) (OW3.out.alloc _) ⟨w3.heap.size, 0, none⟩ 1 1 [.int .i64 (at0 n1 n2 k), .int .i64 (at1 n1 n2 k), .int .i64 (at2 n2 k), .int .i64 x] (by rfl) (by rfl) (World.news_of_block (cs := #[.int .i64 (at0 n1 n2 k), .int .i64 (at1 n1 n2 k), .int .i64 (at2 n2 k), .int .i64 x]) (t := 55) (fr := (0, 0)) (heap_alloc_new w3 _)) (by simp [Value.oneCell']) (by omega) EPH.out EQH.out (by simp; omega) (w3.heap.size + 1) (by simp) ?_; intro gg cc w5 hown1 hgrow hat hlt; have f50 : w5.cell? ⟨w.heap.size, 0, none⟩ = some (.int .i64 n0) := (hgrow.cell_far _ (by simp; omega) (Ne.symm NOTG)).trans (by go_simp); have f51 : w5.cell? ⟨w.heap.size, 1, none⟩ = some (.int .i64 n1) := (hgrow.cell_far _ (by simp; omega) (Ne.symm NOTG)).trans (by go_simp); have f52 : w5.cell? ⟨w.heap.size, 2, none⟩ = some (.int .i64 n2) := (hgrow.cell_far _ (by simp; omega) (Ne.symm NOTG)).trans (by go_simp); have f53 : w5.cell? ⟨Bl, 0, none⟩ = some v := (hgrow.cell_far _ (by simp; omega) (Ne.symm NOTB)).trans (by go_simp); have fr5 : w5.frozen? ⟨Bl, 0, none⟩ = false := (hgrow.frozen_far _ (by simp; omega) (Ne.symm NOTB)).trans (by go_simp); have OWN1 := Lib.hid hown1; have GROW := Lib.hid hgrow; have HAT := Lib.hid hat; clear hown1 hgrow hat))
          all_goals
            have R5 : w5.rowIs Bl 51 1 (fun _ => v) := ((RRH.out.of_block (hb3.block _ lr)).alloc _).of_block (GROW.out.block _ (by simp; omega) (Ne.symm NOTB))
            have G5 : w5.rowIs w.heap.size 49 4 (v4 n0 n1 n2 (.slice (some ⟨bk, off, none⟩) L cap)) := ((GRH.out.of_block (hb3.block _ lb)).alloc _).of_block (GROW.out.block _ (by simp; omega) (Ne.symm NOTG))
            have B5 : Below w.heap.size w w5 := Below.grown ((BB2.out.drew.trans (hb3.mono (Nat.le_of_lt lb))).alloc (by omega) _) GROW.out (by simp; omega) (fun k' hk' => by have := owned_ge OWH.out _ hk'; omega)
            have R6 := Lib.hid ((R5.set 0 (.slice (some ⟨gg, 0, none⟩) ((pks n0 n1 n2 V lev k).length + 1) cc)).congr (g := fun _ => .slice (some ⟨gg, 0, none⟩) ((pks n0 n1 n2 V lev k).length + 1) cc) (fun i hi => by rw [if_pos (by omega)]))
            have G6 := Lib.hid (G5.setOther (a := ⟨Bl, 0, none⟩) hne (.slice (some ⟨gg, 0, none⟩) ((pks n0 n1 n2 V lev k).length + 1) cc))
            have O6 := Lib.hid (owned_setOther OWN1.out (g := Bl) (k := 0) (Nat.lt_succ_self _) (.slice (some ⟨gg, 0, none⟩) ((pks n0 n1 n2 V lev k).length + 1) cc))
            have B6 := Lib.hid (B5.setCell (p := ⟨Bl, 0, none⟩) (Nat.le_of_lt hBl) (.slice (some ⟨gg, 0, none⟩) ((pks n0 n1 n2 V lev k).length + 1) cc))
            have E1 := Lib.hid (pks_yes YES.out)
            clear R5 G5 B5 GROW HAT OWN1 OWH GRH RRH hb3 BB2 OW3 EPH EQH f0 f1 f2 f3 fr3 f50 f51 f52 f53 fr5 c0 c1 c2 cb fr2 CP NOTB NOTG
            go_wp2
            go_roundw
            case rel => exact ⟨k + 1, by omega, by go_num, ⟨_, R6.out, by rw [E1.out, List.length_append, List.flatMap_append]; have := O6.out; rw [EX.out] at this; exact this⟩, G6.out, B6.out⟩
            case measure => simp [RowKit.intOf]; omega
      · have hld : decide (lev < x) = false := decide_eq_false hlev
        have NO := Lib.hid (show isPk n0 n1 n2 V lev k = false by unfold isPk; rw [← EX.out, hld, Bool.false_and])
        go_wp2
        go_roundw
        case rel => exact ⟨k + 1, by omega, by go_num, ⟨v, RR.out, by rw [pks_no NO.out]; exact OW.out⟩, GR.out, BB.out⟩
        case measure => simp [RowKit.intOf]; omega
    · have hki : ¬ (k : Int) < (L : Int) := by omega
      have ek := Lib.hid (show k = L by omega)
      have h20 : (pks n0 n1 n2 V lev k).length < 20 := by rw [ek.out]; have := HFEW.out; omega
      have SO := Lib.hid (sort_owned (pks n0 n1 n2 V lev k) OW.out rfl h20 cb (Nat.lt_succ_self _) lr (by omega))
      go_wp2_with fail
      refine SO.out.mono ?_
      rintro e w3 ⟨rfl, cs, hP, hb3⟩
      have HP := Lib.hid hP; have H3 := Lib.hid hb3
      clear hP hb3
      go_wp2
      go_ret2
      exact ⟨⟨v, rfl, by have := HP.out; rw [ek.out, HL.out] at this; exact this⟩, BB.out.trans (H3.out.mono (by omega))⟩

end Go.Proofs.Ytjghhgapacnpeaa
