/-
  The law CplxMirrors, walked: it returns true.
-/
import Derived.Test.YtiloleochmdfoaaCxM
namespace Go.Proofs.Ytiloleochmdfoaa
open Go.RowKit
attribute [local irreducible] World.setCell

set_option linter.unusedSimpArgs false
set_option linter.unusedVariables false

def ngy (y : Nat → Int) (k : Nat) : Int := ((ng (y k).toNat : Nat) : Int)
theorem CXL_ng (x y : Nat → Int) (n : Nat) : CXL x (ngy y) n ++ [.complex .f64 (x n).toNat (ng (y n).toNat)] = CXL x (ngy y) (n + 1) := CXL_succ x (ngy y) n
theorem tn_ng (y : Nat → Int) : tn (ngy y) = fun k => ng (tn y k) := rfl
set_option maxHeartbeats 3200000 in
theorem mirrors_none (A B C D : Int) (p : Option Addr) (q : Nat) (w : World) (hA : A < 18446744073709551616) (hB : B < 18446744073709551616) (hC : C < 18446744073709551616) (hD : D < 18446744073709551616):
    Calls Try.prog 8 #[.agg #[.int .u64 A, .int .u64 B], .agg #[.int .u64 C, .int .u64 D], .slice p 0 q] w fun e w' => e = .returned (.bool true) ∧ Below w.heap.size w w' := by
  go_enter Try.func8, Try.ntmps8
  go_wp2_with fail
  refine (awake_any _).mono ?_
  rintro e w1 ⟨rfl, hb1⟩
  obtain ⟨hc1, hf1⟩ := bcell hb1
  have hz1 := hb1.size
  try simp at hz1
  have z1_0 : w.heap.size < w1.heap.size := by omega
  have z1_1 : w.heap.size + 1 < w1.heap.size := by omega
  go_wp2
  refine region_all (by kernel_rfl) (by kernel_rfl) ?_
  repeat (go_big_quiet_step ((go_at_call 13; exact held_of _ (Nat.le_refl _) (of_any _ _ _))))
  refine wpQuiet_nil ?_
  rintro x1 ⟨⟨w0, hbx1⟩, rfl⟩
  obtain ⟨hcx1, hfx1⟩ := bcell hbx1
  have hzx1 := hbx1.size
  try simp at hzx1
  have zx1_0 : w.heap.size < x1.heap.size := by omega
  have zx1_1 : w.heap.size + 1 < x1.heap.size := by omega
  obtain ⟨a, ea⟩ : ∃ x, x = A.toNat := ⟨_, rfl⟩
  obtain ⟨b, eb⟩ : ∃ x, x = B.toNat := ⟨_, rfl⟩
  obtain ⟨c, ec⟩ : ∃ x, x = C.toNat := ⟨_, rfl⟩
  obtain ⟨d, ed⟩ : ∃ x, x = D.toNat := ⟨_, rfl⟩
  rw [← ea, ← eb, ← ec, ← ed]
  have ha : a < 18446744073709551616 := by omega
  have hb : b < 18446744073709551616 := by omega
  have hc : c < 18446744073709551616 := by omega
  have hd : d < 18446744073709551616 := by omega
  clear ea eb ec ed
  go_wp2_with fail
  refine (Conj_any a b _).mono ?_
  rintro e w' ⟨rfl, rfl⟩
  go_wp2_with fail
  refine (Conj_any c d _).mono ?_
  rintro e w' ⟨rfl, rfl⟩
  go_wp2_with fail
  refine (Conj_any a (ng b) _).mono ?_
  rintro e w' ⟨rfl, rfl⟩
  have k1 : (samev a a && samev (ng (ng b)) b) = true := both rfl (by rw [ng_ng])
  go_wp2_with fail
  refine (Same_any _ _ _ _ _).mono ?_
  rintro e w' ⟨rfl, rfl⟩
  rw [k1]
  go_wp2_with fail
  refine (Mul_any a (ng b) c (ng d) _).mono ?_
  rintro e w2 ⟨⟨r2, i2, rfl, er2, ei2⟩, hb2⟩
  have hz2 := hb2.size
  go_wp2_with fail
  refine (Mul_any a b c d _).mono ?_
  rintro e w3 ⟨⟨r3, i3, rfl, er3, ei3⟩, hb3⟩
  have hz3 := hb3.size
  go_wp2_with fail
  refine (Conj_any r3 i3 _).mono ?_
  rintro e w' ⟨rfl, rfl⟩
  have m1 : RZ (cn r2) (cn r3) := by rw [er2, er3, cn_ng, cn_ng, mul_ngl _ (W64.cn hb), mul_ngr _ (W64.cn hd), nO_nO]; exact RZ.refl _
  have m2 : RZ (cn i2) (cn (ng i3)) := by rw [ei2, cn_ng i3, ei3, cn_ng, cn_ng, mul_ngl _ (W64.cn hb), mul_ngr _ (W64.cn hd)]; exact add_ng (W64.fop _ _ _) (W64.fop _ _ _)
  have k2 : (eqv r2 r3 && eqv i2 (ng i3)) = true := by rw [eqv_of m1, eqv_of m2]; rfl
  go_wp2_with fail
  refine (rEqual_any _ _ _ _ _).mono ?_
  rintro e w' ⟨rfl, rfl⟩
  rw [k2]
  go_wp2_with fail
  refine (Abs_any a (ng b) ha (ng_lt hb) _).mono ?_
  rintro e w4 ⟨⟨r4, rfl, hr4, er4⟩, hb4⟩
  have hz4 := hb4.size
  go_wp2_with fail
  refine (Abs_any a b ha hb _).mono ?_
  rintro e w5 ⟨⟨r5, rfl, hr5, er5⟩, hb5⟩
  have hz5 := hb5.size
  have k3 : samev r4 r5 = true := samev_of (by rw [er4, er5, AbsV_ng])
  go_wp2_with fail
  refine (rSameFloat_any _ _ _).mono ?_
  rintro e w' ⟨rfl, rfl⟩
  rw [k3]
  go_wp2_with fail
  refine (Abs2_any a (ng b) _).mono ?_
  rintro e w6 ⟨⟨r6, rfl, er6⟩, hb6⟩
  have hz6 := hb6.size
  go_wp2_with fail
  refine (Abs2_any a b _).mono ?_
  rintro e w7 ⟨⟨r7, rfl, er7⟩, hb7⟩
  have hz7 := hb7.size
  have k4 : samev r6 r7 = true := samev_of (by rw [er6, er7, cn_ng, mul_ngl _ (W64.cn hb), mul_ngr _ (W64.cn hb), nO_nO])
  go_wp2_with fail
  refine (rSameFloat_any _ _ _).mono ?_
  rintro e w' ⟨rfl, rfl⟩
  rw [k4]
  have ho := ord_self b
  have hs := sgn_ng hb
  have hnb := ng_lt hb
  have hB7 : Below w.heap.size w w7 := by
    repeat (first | exact Below.refl _ _ | assumption | exact Below.alloc (Below.refl _ _) (Nat.le_refl _) _ | refine Below.setCell ?_ (by first | (simp; done) | (simp; omega) | omega) _ | refine below_drewN ?_ _ | refine below_fw ?_ _ _ _ | refine below_sw ?_ _ | refine Below.alloc ?_ (by first | (simp; done) | (simp; omega) | omega) _ | refine Below.trans ?_ (Below.mono (by assumption) (by first | (simp; done) | (simp; omega) | omega)))
  have hsx : (sgn (ng b) == sgn b) = false := by rw [hs]; cases sgn b <;> rfl
  clear hs
  cases hnn : isN b
  all_goals rw [hnn] at ho
  all_goals go_wp2_with (first | (go_at_call 22; refine (signbit_any _ _ hnb).mono ?_; rintro e w' ⟨rfl, rfl⟩) | (go_at_call 22; refine (signbit_any _ _ hb).mono ?_; rintro e w' ⟨rfl, rfl⟩) | fail)
  all_goals refine wp_loop_rounds 1 ?_
  all_goals rw [rounds_succ]
  all_goals go_wp2_with fail
  all_goals go_wp2_with fail
  all_goals refine (Sum_nil (fun _ => 0) (fun _ => 0) _).mono ?_
  all_goals rintro e w8 ⟨⟨r8, i8, rfl, er8, ei8⟩, hb8⟩
  all_goals have hz8 := hb8.size
  all_goals go_wp2_with fail
  all_goals refine (Sum_nil (fun _ => 0) (fun _ => 0) _).mono ?_
  all_goals rintro e w9 ⟨⟨r9, i9, rfl, er9, ei9⟩, hb9⟩
  all_goals have hz9 := hb9.size
  all_goals go_wp2_with fail
  all_goals refine (Conj_any r9 i9 _).mono ?_
  all_goals rintro e w' ⟨rfl, rfl⟩
  all_goals have n1 : RZ (cn r8) (cn r9) := by rw [er8, er9]; exact RZ.refl _
  all_goals have n2 : RZ (cn i8) (cn (ng i9)) := by rw [ei8, cn_ng i9, ei9]; exact .inr ⟨.inl rfl, zr_nO (.inl rfl)⟩
  all_goals have k9 : (eqv r8 r9 && eqv i8 (ng i9)) = true := by rw [eqv_of n1, eqv_of n2]; rfl
  all_goals go_wp2_with fail
  all_goals refine (rEqual_any _ _ _ _ _).mono ?_
  all_goals rintro e w' ⟨rfl, rfl⟩
  all_goals rw [k9]
  all_goals go_wp2
  all_goals go_ret
  all_goals refine ⟨rfl, ?_⟩
  all_goals (repeat (first | exact Below.refl _ _ | assumption | exact Below.alloc (Below.refl _ _) (Nat.le_refl _) _ | refine Below.setCell ?_ (by first | (simp; done) | (simp; omega) | omega) _ | refine below_drewN ?_ _ | refine below_fw ?_ _ _ _ | refine below_sw ?_ _ | refine Below.alloc ?_ (by first | (simp; done) | (simp; omega) | omega) _ | refine Below.trans ?_ (Below.mono (by assumption) (by first | (simp; done) | (simp; omega) | omega))))

set_option maxHeartbeats 6400000 in
theorem mirrors_some (A B C D : Int) (bk o n cc : Nat) (x y : Nat → Int) (w : World) (hA : A < 18446744073709551616) (hB : B < 18446744073709551616) (hC : C < 18446744073709551616) (hD : D < 18446744073709551616) (hbk : bk < w.heap.size) (hcap : n ≤ cc) (hn : n * 16 ≤ 140737488351232) (hc0 : ∀ k, k < n → w.cell? ⟨bk, o + 2 * k, none⟩ = some (.int .u64 (x k))) (hc1 : ∀ k, k < n → w.cell? ⟨bk, o + 2 * k + 1, none⟩ = some (.int .u64 (y k))) (hyl : ∀ k, k < n → y k < 18446744073709551616):
    Calls Try.prog 8 #[.agg #[.int .u64 A, .int .u64 B], .agg #[.int .u64 C, .int .u64 D], .slice (some ⟨bk, o, none⟩) n cc] w fun e w' => e = .returned (.bool true) ∧ Below w.heap.size w w' := by
  have hc0w := hc0; have hc1w := hc1; clear hc0 hc1
  obtain ⟨i0, hi, hq0, hq1, hq2⟩ := info_parts Try.info25
  go_enter Try.func8, Try.ntmps8
  go_wp2_with fail
  refine (awake_any _).mono ?_
  rintro e w1 ⟨rfl, hb1⟩
  obtain ⟨hc1, hf1⟩ := bcell hb1
  have hz1 := hb1.size
  try simp at hz1
  have z1_0 : w.heap.size < w1.heap.size := by omega
  have z1_1 : w.heap.size + 1 < w1.heap.size := by omega
  go_wp2
  refine region_all (by kernel_rfl) (by kernel_rfl) ?_
  repeat (go_big_quiet_step ((go_at_call 13; exact held_of _ (Nat.le_refl _) (of_any _ _ _))))
  refine wpQuiet_nil ?_
  rintro x1 ⟨⟨w0, hbx1⟩, rfl⟩
  obtain ⟨hcx1, hfx1⟩ := bcell hbx1
  have hzx1 := hbx1.size
  try simp at hzx1
  have zx1_0 : w.heap.size < x1.heap.size := by omega
  have zx1_1 : w.heap.size + 1 < x1.heap.size := by omega
  obtain ⟨a, ea⟩ : ∃ x, x = A.toNat := ⟨_, rfl⟩
  obtain ⟨b, eb⟩ : ∃ x, x = B.toNat := ⟨_, rfl⟩
  obtain ⟨c, ec⟩ : ∃ x, x = C.toNat := ⟨_, rfl⟩
  obtain ⟨d, ed⟩ : ∃ x, x = D.toNat := ⟨_, rfl⟩
  rw [← ea, ← eb, ← ec, ← ed]
  have ha : a < 18446744073709551616 := by omega
  have hb : b < 18446744073709551616 := by omega
  have hc : c < 18446744073709551616 := by omega
  have hd : d < 18446744073709551616 := by omega
  clear ea eb ec ed
  go_wp2_with fail
  refine (Conj_any a b _).mono ?_
  rintro e w' ⟨rfl, rfl⟩
  go_wp2_with fail
  refine (Conj_any c d _).mono ?_
  rintro e w' ⟨rfl, rfl⟩
  go_wp2_with fail
  refine (Conj_any a (ng b) _).mono ?_
  rintro e w' ⟨rfl, rfl⟩
  have k1 : (samev a a && samev (ng (ng b)) b) = true := both rfl (by rw [ng_ng])
  go_wp2_with fail
  refine (Same_any _ _ _ _ _).mono ?_
  rintro e w' ⟨rfl, rfl⟩
  rw [k1]
  go_wp2_with fail
  refine (Mul_any a (ng b) c (ng d) _).mono ?_
  rintro e w2 ⟨⟨r2, i2, rfl, er2, ei2⟩, hb2⟩
  have hz2 := hb2.size
  go_wp2_with fail
  refine (Mul_any a b c d _).mono ?_
  rintro e w3 ⟨⟨r3, i3, rfl, er3, ei3⟩, hb3⟩
  have hz3 := hb3.size
  go_wp2_with fail
  refine (Conj_any r3 i3 _).mono ?_
  rintro e w' ⟨rfl, rfl⟩
  have m1 : RZ (cn r2) (cn r3) := by rw [er2, er3, cn_ng, cn_ng, mul_ngl _ (W64.cn hb), mul_ngr _ (W64.cn hd), nO_nO]; exact RZ.refl _
  have m2 : RZ (cn i2) (cn (ng i3)) := by rw [ei2, cn_ng i3, ei3, cn_ng, cn_ng, mul_ngl _ (W64.cn hb), mul_ngr _ (W64.cn hd)]; exact add_ng (W64.fop _ _ _) (W64.fop _ _ _)
  have k2 : (eqv r2 r3 && eqv i2 (ng i3)) = true := by rw [eqv_of m1, eqv_of m2]; rfl
  go_wp2_with fail
  refine (rEqual_any _ _ _ _ _).mono ?_
  rintro e w' ⟨rfl, rfl⟩
  rw [k2]
  go_wp2_with fail
  refine (Abs_any a (ng b) ha (ng_lt hb) _).mono ?_
  rintro e w4 ⟨⟨r4, rfl, hr4, er4⟩, hb4⟩
  have hz4 := hb4.size
  go_wp2_with fail
  refine (Abs_any a b ha hb _).mono ?_
  rintro e w5 ⟨⟨r5, rfl, hr5, er5⟩, hb5⟩
  have hz5 := hb5.size
  have k3 : samev r4 r5 = true := samev_of (by rw [er4, er5, AbsV_ng])
  go_wp2_with fail
  refine (rSameFloat_any _ _ _).mono ?_
  rintro e w' ⟨rfl, rfl⟩
  rw [k3]
  go_wp2_with fail
  refine (Abs2_any a (ng b) _).mono ?_
  rintro e w6 ⟨⟨r6, rfl, er6⟩, hb6⟩
  have hz6 := hb6.size
  go_wp2_with fail
  refine (Abs2_any a b _).mono ?_
  rintro e w7 ⟨⟨r7, rfl, er7⟩, hb7⟩
  have hz7 := hb7.size
  have k4 : samev r6 r7 = true := samev_of (by rw [er6, er7, cn_ng, mul_ngl _ (W64.cn hb), mul_ngr _ (W64.cn hb), nO_nO])
  go_wp2_with fail
  refine (rSameFloat_any _ _ _).mono ?_
  rintro e w' ⟨rfl, rfl⟩
  rw [k4]
  have ho := ord_self b
  have hs := sgn_ng hb
  have hnb := ng_lt hb
  have hB7 : Below w.heap.size w w7 := by
    repeat (first | exact Below.refl _ _ | assumption | exact Below.alloc (Below.refl _ _) (Nat.le_refl _) _ | refine Below.setCell ?_ (by first | (simp; done) | (simp; omega) | omega) _ | refine below_drewN ?_ _ | refine below_fw ?_ _ _ _ | refine below_sw ?_ _ | refine Below.alloc ?_ (by first | (simp; done) | (simp; omega) | omega) _ | refine Below.trans ?_ (Below.mono (by assumption) (by first | (simp; done) | (simp; omega) | omega)))
  have hsx : (sgn (ng b) == sgn b) = false := by rw [hs]; cases sgn b <;> rfl
  clear hs
  cases hnn : isN b
  all_goals rw [hnn] at ho
  all_goals go_wp2_with (first | (go_at_call 22; refine (signbit_any _ _ hnb).mono ?_; rintro e w' ⟨rfl, rfl⟩) | (go_at_call 22; refine (signbit_any _ _ hb).mono ?_; rintro e w' ⟨rfl, rfl⟩) | fail)
  all_goals
    have hbk7 : bk < w7.heap.size := by omega
    have hc07 : ∀ k, k < n → w7.cell? ⟨bk, o + 2 * k, none⟩ = some (.int .u64 (x k)) := fun k hk => (hB7.cell (p := ⟨bk, o + 2 * k, none⟩) hbk).trans (hc0w k hk)
    have hc17 : ∀ k, k < n → w7.cell? ⟨bk, o + 2 * k + 1, none⟩ = some (.int .u64 (y k)) := fun k hk => (hB7.cell (p := ⟨bk, o + 2 * k + 1, none⟩) hbk).trans (hc1w k hk)
    go_loopw [73, 12, 13] (fun i vv u wr => ∃ k : Nat, k ≤ n ∧ i = .int .i64 k ∧ wr.ownsRow w7.heap.size 25 1 vv k (CXL x y k) ∧ wr.ownsRow w7.heap.size 25 1 u k (CXL x (ngy y) k) ∧ (u.ownBlock = none ∨ vv.ownBlock = none ∨ u.ownBlock ≠ vv.ownBlock) ∧ Below w7.heap.size w7 wr) (fun i _ _ _ => n - (intOf i).toNat)
    case atStart => exact ⟨0, by omega, rfl, ⟨rfl, .inl ⟨rfl, rfl⟩⟩, ⟨rfl, .inl ⟨rfl, rfl⟩⟩, .inl rfl, Below.refl _ _⟩
    case round =>
      obtain ⟨k, hk, rfl, hown, hun, hsep, hb⟩ := hrel
      have hz := hb.size
      by_cases hlt : k < n
      · have c0 := (hb.cell (p := ⟨bk, o + 2 * k, none⟩) hbk7).trans (hc07 k hlt)
        have c1 := (hb.cell (p := ⟨bk, o + 2 * k + 1, none⟩) hbk7).trans (hc17 k hlt)
        have e1 : o + k * 2 = o + 2 * k := by omega
        have hbw : bk < wr.heap.size := by omega
        go_wp2_with fail
        refine (of_any _ _ _).mono ?_
        rintro e v1 ⟨rfl, hv1⟩
        have hzv1 := hv1.size
        try simp at hzv1
        have hBa : Below wr.heap.size wr v1 := by
          repeat (first | exact Below.refl _ _ | assumption | exact Below.alloc (Below.refl _ _) (Nat.le_refl _) _ | refine Below.setCell ?_ (by first | (simp; done) | (simp; omega) | omega) _ | refine below_drewN ?_ _ | refine below_fw ?_ _ _ _ | refine below_sw ?_ _ | refine Below.alloc ?_ (by first | (simp; done) | (simp; omega) | omega) _ | refine Below.trans ?_ (Below.mono (by assumption) (by first | (simp; done) | (simp; omega) | omega)))
        have hO := ownsRow_below hown hBa
        have hU := ownsRow_below hun hBa
        have bx0 : v1.cell? ⟨wr.heap.size, 0, none⟩ = some (.int .u64 (x k)) := (hv1.cell (p := ⟨wr.heap.size, 0, none⟩) (by simp)).trans (by go_simp)
        have bx1 : v1.cell? ⟨wr.heap.size, 1, none⟩ = some (.int .u64 (y k)) := (hv1.cell (p := ⟨wr.heap.size, 1, none⟩) (by simp)).trans (by go_simp)
        go_wp2_with (at_builtin; refine wpList_append_apart rfl _ _ 45 rfl w7.heap.size 25 i0 (.complex .f64 0 0) 16 Try.underlying45 hi hq0 hq1 hq2 rfl _ _ _ rfl (hO.alloc _) ⟨v1.heap.size, 0, none⟩ 1 (.complex .f64 (x k).toNat (y k).toNat) rfl ?d1 rfl ?d3 ?d4 ?d5 ?_)
        case d1 => simp
        case d3 => unfold maxLen; omega
        case d4 => omega
        case d5 => simp; omega
        · intro a1 v2 hown1 hgrow hap
          have hzv2 := hgrow.size
          simp at hzv2
          rw [CXL_succ] at hown1
          have hvlt := World.ownsRow.lt hown
          have hult := World.ownsRow.lt hun
          have hU2 : v2.ownsRow w7.heap.size 25 1 u13 k (CXL x (ngy y) k) := (hU.alloc _).kept hgrow (by
            cases hq : u13.ownBlock with
            | none => exact .inl rfl
            | some z =>
              rcases hsep with h | h | h
              · rw [hq] at h; cases h
              · exact .inr (by rw [h]; simp)
              · exact .inr (by rw [← hq]; exact h))
          have hsep2 : u13.ownBlock = none ∨ a1.ownBlock = none ∨ u13.ownBlock ≠ a1.ownBlock := by
            cases hq : u13.ownBlock with
            | none => exact .inl rfl
            | some z =>
              rcases hap with h | h
              · rcases hsep with g | g | g
                · rw [hq] at g; cases g
                · exact .inr (.inl (by rw [h, g]))
                · exact .inr (.inr (by rw [h, ← hq]; exact g))
              · refine .inr (.inr (fun g => ?_))
                have g1 := h z g.symm
                have g2 := (hult z hq).2
                try simp at g1
                omega
          have hnb2 : ∀ z, u12.ownBlock = some z → z < wr.heap.size := fun z hz => (hvlt z hz).2
          have blk : v2.heap[wr.heap.size]? = v1.heap[wr.heap.size]? := by
            rw [hgrow.block wr.heap.size (by simp; omega) (fun g => by have := hnb2 _ g.symm; omega)]
            exact (Below.alloc (Below.refl v1.heap.size v1) (Nat.le_refl _) _).block _ (by omega)
          have by0 : v2.cell? ⟨wr.heap.size, 0, none⟩ = some (.int .u64 (x k)) := (World.cell?_of_block (a := ⟨wr.heap.size, 0, none⟩) blk).trans bx0
          have by1 : v2.cell? ⟨wr.heap.size, 1, none⟩ = some (.int .u64 (y k)) := (World.cell?_of_block (a := ⟨wr.heap.size, 1, none⟩) blk).trans bx1
          have hB2 : Below w7.heap.size w7 v2 := Below.grown ((hb.trans (hBa.mono (by omega))).alloc (by omega) _) hgrow (by simp; omega) (fun z hz => (hvlt z hz).1)
          go_wp2_with fail
          refine (of_any _ _ _).mono ?_
          rintro e v3 ⟨rfl, hv3⟩
          have hzv3 := hv3.size
          go_wp2_with fail
          refine (Conj_any _ _ _).mono ?_
          rintro e w' ⟨rfl, rfl⟩
          have hU3 := ownsRow_below hU2 hv3
          have hown3 := ownsRow_below hown1 hv3
          go_wp2_with (at_builtin; refine wpList_append_apart rfl _ _ 45 rfl w7.heap.size 25 i0 (.complex .f64 0 0) 16 Try.underlying45 hi hq0 hq1 hq2 rfl _ _ _ rfl (hU3.alloc _) ⟨v3.heap.size, 0, none⟩ 1 (.complex .f64 (x k).toNat (ng (y k).toNat)) rfl ?d1 rfl ?d3 ?d4 ?d5 ?_)
          case d1 => simp
          case d3 => unfold maxLen; omega
          case d4 => omega
          case d5 => simp; omega
          · intro u1 v4 hu1 hgrow2 hap2
            have hzv4 := hgrow2.size
            simp at hzv4
            rw [CXL_ng] at hu1
            have hult2 := World.ownsRow.lt hU3
            have hvlt2 := World.ownsRow.lt hown3
            have hown4 : v4.ownsRow w7.heap.size 25 1 a1 (k + 1) (CXL x y (k + 1)) := (hown3.alloc _).kept hgrow2 (by
              cases hq : a1.ownBlock with
              | none => exact .inl rfl
              | some z =>
                rcases hsep2 with h | h | h
                · exact .inr (by rw [h]; simp)
                · rw [hq] at h; cases h
                · exact .inr (by rw [← hq]; exact fun g => h g.symm))
            have hsep4 : u1.ownBlock = none ∨ a1.ownBlock = none ∨ u1.ownBlock ≠ a1.ownBlock := by
              cases hq : a1.ownBlock with
              | none => exact .inr (.inl rfl)
              | some z =>
                rcases hap2 with h | h
                · rcases hsep2 with g | g | g
                  · exact .inl (by rw [h, g])
                  · rw [hq] at g; cases g
                  · exact .inr (.inr (by rw [h, ← hq]; exact g))
                · refine .inr (.inr (fun g => ?_))
                  have g1 := h z g
                  have g2 := (hvlt2 z hq).2
                  try simp at g1
                  omega
            have hB4 : Below w7.heap.size w7 v4 := Below.grown ((hB2.trans (hv3.mono (by omega))).alloc (by omega) _) hgrow2 (by simp; omega) (fun z hz => (hult2 z hz).1)
            go_wp2
            go_roundw
            case rel => exact ⟨k + 1, by omega, by go_num, hown4, hu1, hsep4, hB4⟩
            case measure => simp [intOf] <;> omega
      · obtain rfl : k = n := by omega
        go_wp2_with fail
        refine (Sum_own _ hn hun).mono ?_
        rintro e w8 ⟨⟨r8, i8, rfl, er8, ei8⟩, hb8⟩
        have hz8 := hb8.size
        have hown8 := ownsRow_below hown hb8
        go_wp2_with fail
        refine (Sum_own _ hn hown8).mono ?_
        rintro e w9 ⟨⟨r9, i9, rfl, er9, ei9⟩, hb9⟩
        have hz9 := hb9.size
        go_wp2_with fail
        refine (Conj_any r9 i9 _).mono ?_
        rintro e w' ⟨rfl, rfl⟩
        rw [tn_ng] at ei8
        have n1 : RZ (cn r8) (cn r9) := by rw [er8, er9]; exact RZ.refl _
        have n2 : RZ (cn i8) (cn (ng i9)) := by rw [ei8, cn_ng i9, ei9]; exact (csum_ng _ _ (fun q hq => by have := hyl q hq; show (y q).toNat < _; omega)).2
        have k9 : (eqv r8 r9 && eqv i8 (ng i9)) = true := by rw [eqv_of n1, eqv_of n2]; rfl
        go_wp2_with fail
        refine (rEqual_any _ _ _ _ _).mono ?_
        rintro e w' ⟨rfl, rfl⟩
        rw [k9]
        go_wp2
        go_ret
        refine ⟨rfl, ?_⟩
        exact hB7.trans ((hb.trans ((hb8.trans (hb9.mono (by omega))).mono (by omega))).mono (by omega))

end Go.Proofs.Ytiloleochmdfoaa
