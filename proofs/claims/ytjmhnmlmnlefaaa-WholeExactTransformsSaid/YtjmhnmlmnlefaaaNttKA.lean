/-
  A transform along an edge.
-/
import Derived.Test.YtjmhnmlmnlefaaaNttK
namespace Go.Proofs.Ytjmhnmlmnlefaaa
open Go.RowKit Go.Lib
attribute [local irreducible] World.setCell dft idft mix alongF sm pw
set_option linter.unusedSimpArgs false
set_option linter.unusedVariables false


set_option maxHeartbeats 8000000 in
set_option maxRecDepth 100000 in
theorem alongA0 (n0 n1 n2 s m L Q gx pc : Nat) (X : Nat → F) (w : World) (hm0 : 0 < m) (hmd : 192 % m = 0) (hs0 : 0 < s) (hM : m = n0) (hS : s = n1 * n2) (hb1 : n1 ≤ 192) (hb2 : n2 ≤ 192) (hL : L = Q * (m * s)) (hLb : L ≤ 262144) (hgx : gx < w.heap.size) (hpc : pc < w.heap.size) (hpg : gx < pc) (hcc : w.cell? ⟨pc, 0, none⟩ = some (wd (rt m))) (hrow : w.rowIs gx 41 L (fun i => wd (X i))) :
    Calls Try.prog 40 #[.agg #[.int .i64 n0, .int .i64 n1, .int .i64 n2], .slice (some ⟨gx, 0, none⟩) L L, .int .i64 0, .func (Fn.func 58) #[] #[.pointer (some ⟨pc, 0, none⟩)]] w fun e w' => e = .returned (.tuple #[]) ∧ w'.rowIs gx 41 L (fun i => wd (alongF (dft m (rt m)) s m X i)) ∧ Below gx w w' := by
  subst hM
  have hm1 := le_192 hmd
  have hmk := mk41 m (by omega)
  have hLi : (L : Int) ≤ 262144 := by omega
  clear hLb
  
  have HR := Lib.hid hrow; have HL := Lib.hid hL; have HMS := Lib.hid (And.intro hS hmd); have HD := Lib.hid hmd; clear hrow hL hS hmd
  have hb0 : gx < (w.alloc (.cells #[.int .i64 m, .int .i64 n1, .int .i64 n2] 23)).heap.size := by simp; omega
  have HM1 := Lib.hid ((w.alloc (.cells #[.int .i64 m, .int .i64 n1, .int .i64 n2] 23)).rowIs_made (.int .u64 0) m 41)
  have HM2 := Lib.hid ((HR.out.alloc (.cells #[.int .i64 m, .int .i64 n1, .int .i64 n2] 23)).alloc (.cells (madeCells #[.int .u64 0] m) 41))
  go_enter Try.func40, Try.ntmps40
  go_wp2
  refine wp_loop_rounds 3 ?_
  rw [rounds_succ]
  go_wp2
  rw [rounds_succ]
  go_wp2
  rw [rounds_succ]
  go_wp2
  have hp : wrap64 ((n1 : Int) * (n2 : Int)) = (s : Int) := by rw [HMS.out.1, Int.natCast_mul]; exact wrap_id _ (by have := mul_box hb1 hb2; omega) (by have := mul_box hb1 hb2; omega)
  rw [hp]
  clear hp
  go_loopw [32] (fun i wr => ∃ a : Nat, a ≤ L ∧ i = .int .i64 a ∧ wr.rowIs gx 41 L (fun i => wd (mix (dft m (rt m)) s m X a 0 i)) ∧ (∃ p : Nat → Value, wr.rowIs (w.heap.size + 1) 41 m p) ∧ wr.cell? ⟨w.heap.size, 0, none⟩ = some (.int .i64 m) ∧ Below gx w wr ∧ wr.cell? ⟨pc, 0, none⟩ = some (wd (rt m))) (fun i _ => L - (RowKit.intOf i).toNat)
  case atStart =>
    refine ⟨0, Nat.zero_le _, rfl, HM2.out.congr (fun i _ => by rw [mix_none]), ⟨_, by have := HM1.out; simp only [World.size_alloc] at this; exact this⟩, by go_simp, ((Below.refl _ _).alloc (by omega) _).alloc (by simp; omega) _, by go_simp⟩
  case round =>
    obtain ⟨a, ha, rfl, qx, ⟨p, ql⟩, qc, qb, qp⟩ := hrel
    have QX := Lib.hid qx; have QL := Lib.hid ql; have QB := Lib.hid qb
    clear qx ql qb HM1 HM2 hb0 HR hmk
    have hsi : ¬ (s : Int) = 0 := by omega
    have hmi : ¬ (m : Int) = 0 := by omega
    have hgl : ¬ w.heap.size = gx := by omega
    have hgl1 : ¬ w.heap.size + 1 = gx := by omega
    by_cases haL : a < L
    · by_cases hco : co s m a = 0
      · have hte : ((wrap64 ((a : Int) / (s : Int))).tmod (m : Int) != 0) = false := by rw [co_test (by omega) hs0, hco]; rfl
        have HCO := Lib.hid hco
        have HLT := Lib.hid (fun k (hk : k < m) => at_lt (L := L) (by omega : 0 < s) HL.out hco haL hk); clear hco
        obtain ⟨wo, rfl⟩ : ∃ wo : World, wo = wr := ⟨_, rfl⟩
        go_wp2
        go_quiet (fail)
        go_wp2
        clear hte
        go_loopw [45] (fun i wr => ∃ k : Nat, k ≤ m ∧ i = .int .i64 k ∧ wr.rowIs gx 41 L (fun i => wd (mix (dft m (rt m)) s m X a 0 i)) ∧ (∃ p : Nat → Value, wr.rowIs (w.heap.size + 1) 41 m (fun i => if i < k then wd (X (a + i * s)) else p i)) ∧ wr.cell? ⟨w.heap.size, 0, none⟩ = some (.int .i64 m) ∧ Below gx w wr ∧ wr.cell? ⟨pc, 0, none⟩ = some (wd (rt m))) (fun i _ => m - (RowKit.intOf i).toNat)
        case atStart => exact ⟨0, Nat.zero_le _, rfl, rowIs_drewN QX.out _, ⟨p, (rowIs_drewN QL.out _).congr (fun i _ => by rw [if_neg (by omega)])⟩, qc, below_drewN QB.out _, qp⟩
        case round =>
          obtain ⟨k, hk, rfl, qx, ⟨p, ql⟩, qc, qb, qp⟩ := hrel
          clear QX QL QB
          by_cases hkm : k < m
          · obtain ⟨t, etk, hTn, hTl, hwt0, hks0⟩ := ix_s hLi (HLT.out k hkm)
            have hwt := congrArg (Value.int IntKind.i64) hwt0
            have hks := congrArg (Value.int IntKind.i64) hks0
            clear hwt0 hks0
            have hcx : wr.cell? ⟨gx, a + t, none⟩ = some (wd (X (a + t))) := by
              have := qx.cell (i := a + t) hTn
              rw [← etk, mix_old _ X (by omega) HCO.out hkm (Nat.zero_le _)] at this
              rw [← etk]; exact this
            have hcl : wr.cell? ⟨w.heap.size + 1, k, none⟩ = some (p k) := (ql.cell hkm).trans (by rw [if_neg (by omega)])
            have hfl : wr.frozen? ⟨w.heap.size + 1, k, none⟩ = false := ql.frozen k
            have QX := Lib.hid qx; have QL := Lib.hid ql; have QB := Lib.hid qb; have ETK := Lib.hid etk
            clear qx ql qb etk
            go_wp2
            go_roundw
            case rel =>
              refine ⟨k + 1, by omega, by go_num, QX.out.setOther (by simp; omega) _, ⟨p, (QL.out.set k _).congr (fun i _ => ?_)⟩, by go_simp, QB.out.setCell (by simp; omega) _, by go_simp⟩
              by_cases q : i = k
              · subst q; rw [if_pos rfl, if_pos (by omega), ETK.out]
              · rw [if_neg q]
                by_cases q2 : i < k
                · rw [if_pos q2, if_pos (by omega)]
                · rw [if_neg q2, if_neg (by omega)]
            case measure => simp [RowKit.intOf]; omega
          · have hkm' : k = m := by omega
            have HKM := Lib.hid hkm'; clear hkm'
            have QX := Lib.hid qx; have QL := Lib.hid ql; have QB := Lib.hid qb
            have hglt := ql.lt
            clear qx ql qb
            go_wp2_with fail
            refine (fwd1_any m (w.heap.size + 1) 0 m pc (fun i => X (a + i * s)) _ hm0 HD.out ?_ ?_ qp).mono ?_
            · exact hglt
            · intro i hi; rw [Nat.zero_add]; exact (QL.out.cell hi).trans (by rw [if_pos (Nat.lt_of_lt_of_eq hi HKM.out.symm)])
            rintro e w3 ⟨⟨g, rfl, hg, hr⟩, hb3⟩
            have hg' : w.heap.size + 1 < g := by omega
            have qx3 := Lib.hid (rowIs_below QX.out hb3 QX.out.lt)
            have ql3 := Lib.hid (rowIs_below QL.out hb3 QL.out.lt)
            have qc3 : w3.cell? ⟨w.heap.size, 0, none⟩ = some (.int .i64 m) := (hb3.cell (p := ⟨w.heap.size, 0, none⟩) (by simp; omega)).trans qc
            have qb3 := Lib.hid (QB.out.trans (hb3.mono (Nat.le_of_lt (by have := QX.out.lt; omega))))
            have qp3 : w3.cell? ⟨pc, 0, none⟩ = some (wd (rt m)) := (hb3.cell (p := ⟨pc, 0, none⟩) (by have := QB.out.size; simp; omega)).trans qp
            have HR3 := Lib.hid hr
            clear hr hb3 QX QL QB qc hg hglt
            go_wp2
            go_loopw [64] (fun i wr => ∃ k : Nat, k ≤ m ∧ i = .int .i64 k ∧ wr.rowIs gx 41 L (fun i => wd (mix (dft m (rt m)) s m X a k i)) ∧ wr.rowIs g 41 m (fun i => wd (dft m (rt m) (fun i => X (a + i * s)) i)) ∧ (∃ p : Nat → Value, wr.rowIs (w.heap.size + 1) 41 m p) ∧ wr.cell? ⟨w.heap.size, 0, none⟩ = some (.int .i64 m) ∧ Below gx w wr ∧ wr.cell? ⟨pc, 0, none⟩ = some (wd (rt m))) (fun i _ => m - (RowKit.intOf i).toNat)
            case atStart => exact ⟨0, Nat.zero_le _, rfl, qx3.out, HR3.out, ⟨_, ql3.out⟩, qc3, qb3.out, qp3⟩
            case round =>
              obtain ⟨k, hk, rfl, qx, qr, ⟨p, ql⟩, qc, qb, qp⟩ := hrel
              clear qx3 ql3 qb3 HR3
              by_cases hkm : k < m
              · obtain ⟨t, etk, hTn, hTl, hwt0, hks0⟩ := ix_s hLi (HLT.out k hkm)
                have hwt := congrArg (Value.int IntKind.i64) hwt0
                have hks := congrArg (Value.int IntKind.i64) hks0
                clear hwt0 hks0
                obtain ⟨ov, hcx⟩ : ∃ v, wr.cell? ⟨gx, a + t, none⟩ = some v := ⟨_, qx.cell (i := a + t) hTn⟩
                have hfx : wr.frozen? ⟨gx, a + t, none⟩ = false := qx.frozen _
                obtain ⟨z, ez⟩ : ∃ z, z = dft m (rt m) (fun i => X (a + i * s)) k := ⟨_, rfl⟩
                have hcg : wr.cell? ⟨g, k, none⟩ = some (wd z) := by rw [ez]; exact qr.cell hkm
                have EZ := Lib.hid ez; clear ez
                have QX := Lib.hid qx; have QL := Lib.hid ql; have QB := Lib.hid qb; have QR := Lib.hid qr; have ETK := Lib.hid etk
                clear qx ql qb qr etk
                go_wp2
                go_roundw
                case rel =>
                  refine ⟨k + 1, by omega, by go_num, (QX.out.set (a + t) _).congr (fun i _ => ?_), QR.out.setOther (by simp; omega) _, ⟨p, QL.out.setOther (by simp; omega) _⟩, by go_simp, QB.out.setCell (Nat.le_refl _) _, by go_simp⟩
                  rw [mix_step _ X (by omega) HCO.out hkm, ← ETK.out, ← EZ.out]
                  split <;> rfl
                case measure => simp [RowKit.intOf]; omega
              · have hkm' : k = m := by omega
                have HKM := Lib.hid hkm'; clear hkm'
                have QX := Lib.hid qx; have QL := Lib.hid ql; have QB := Lib.hid qb
                clear qx ql qb
                go_wp2
                go_roundw
                case rel => exact ⟨a + 1, by omega, by go_num, QX.out.congr (fun i _ => by rw [HKM.out, mix_all _ X hm0]), ⟨p, QL.out⟩, qc, QB.out, qp⟩
                case measure => simp [RowKit.intOf]; omega
      · have hte : ((wrap64 ((a : Int) / (s : Int))).tmod (m : Int) != 0) = true := by rw [co_test (by omega) hs0]; simp; omega
        go_wp2
        go_quiet (fail)
        go_wp2
        go_roundw
        case rel => exact ⟨a + 1, by omega, by go_num, (rowIs_drewN QX.out _).congr (fun i _ => by rw [mix_skip _ X hco]), ⟨p, rowIs_drewN QL.out _⟩, qc, below_drewN QB.out _, qp⟩
        case measure => simp [RowKit.intOf]; omega
    · have haL' : a = L := by omega
      have HAL := Lib.hid haL'; clear haL'
      go_wp2
      go_end0
      exact ⟨rfl, QX.out.congr (fun i hi => by rw [HAL.out, mix_end _ X hi]), QB.out⟩

set_option maxHeartbeats 8000000 in
set_option maxRecDepth 100000 in
theorem alongA1 (n0 n1 n2 s m L Q gx pc : Nat) (X : Nat → F) (w : World) (hm0 : 0 < m) (hmd : 192 % m = 0) (hs0 : 0 < s) (hM : m = n1) (hS : s = n2) (hb1 : n1 ≤ 192) (hb2 : n2 ≤ 192) (hL : L = Q * (m * s)) (hLb : L ≤ 262144) (hgx : gx < w.heap.size) (hpc : pc < w.heap.size) (hpg : gx < pc) (hcc : w.cell? ⟨pc, 0, none⟩ = some (wd (rt m))) (hrow : w.rowIs gx 41 L (fun i => wd (X i))) :
    Calls Try.prog 40 #[.agg #[.int .i64 n0, .int .i64 n1, .int .i64 n2], .slice (some ⟨gx, 0, none⟩) L L, .int .i64 1, .func (Fn.func 58) #[] #[.pointer (some ⟨pc, 0, none⟩)]] w fun e w' => e = .returned (.tuple #[]) ∧ w'.rowIs gx 41 L (fun i => wd (alongF (dft m (rt m)) s m X i)) ∧ Below gx w w' := by
  subst hM
  have hm1 := le_192 hmd
  have hmk := mk41 m (by omega)
  have hLi : (L : Int) ≤ 262144 := by omega
  clear hLb
  subst hS; have hS : True := trivial
  have HR := Lib.hid hrow; have HL := Lib.hid hL; have HMS := Lib.hid (And.intro hS hmd); have HD := Lib.hid hmd; clear hrow hL hS hmd
  have hb0 : gx < (w.alloc (.cells #[.int .i64 n0, .int .i64 m, .int .i64 s] 23)).heap.size := by simp; omega
  have HM1 := Lib.hid ((w.alloc (.cells #[.int .i64 n0, .int .i64 m, .int .i64 s] 23)).rowIs_made (.int .u64 0) m 41)
  have HM2 := Lib.hid ((HR.out.alloc (.cells #[.int .i64 n0, .int .i64 m, .int .i64 s] 23)).alloc (.cells (madeCells #[.int .u64 0] m) 41))
  go_enter Try.func40, Try.ntmps40
  go_wp2
  refine wp_loop_rounds 2 ?_
  rw [rounds_succ]
  go_wp2
  rw [rounds_succ]
  go_wp2
  
  go_loopw [32] (fun i wr => ∃ a : Nat, a ≤ L ∧ i = .int .i64 a ∧ wr.rowIs gx 41 L (fun i => wd (mix (dft m (rt m)) s m X a 0 i)) ∧ (∃ p : Nat → Value, wr.rowIs (w.heap.size + 1) 41 m p) ∧ wr.cell? ⟨w.heap.size, 1, none⟩ = some (.int .i64 m) ∧ Below gx w wr ∧ wr.cell? ⟨pc, 0, none⟩ = some (wd (rt m))) (fun i _ => L - (RowKit.intOf i).toNat)
  case atStart =>
    refine ⟨0, Nat.zero_le _, rfl, HM2.out.congr (fun i _ => by rw [mix_none]), ⟨_, by have := HM1.out; simp only [World.size_alloc] at this; exact this⟩, by go_simp, ((Below.refl _ _).alloc (by omega) _).alloc (by simp; omega) _, by go_simp⟩
  case round =>
    obtain ⟨a, ha, rfl, qx, ⟨p, ql⟩, qc, qb, qp⟩ := hrel
    have QX := Lib.hid qx; have QL := Lib.hid ql; have QB := Lib.hid qb
    clear qx ql qb HM1 HM2 hb0 HR hmk
    have hsi : ¬ (s : Int) = 0 := by omega
    have hmi : ¬ (m : Int) = 0 := by omega
    have hgl : ¬ w.heap.size = gx := by omega
    have hgl1 : ¬ w.heap.size + 1 = gx := by omega
    by_cases haL : a < L
    · by_cases hco : co s m a = 0
      · have hte : ((wrap64 ((a : Int) / (s : Int))).tmod (m : Int) != 0) = false := by rw [co_test (by omega) hs0, hco]; rfl
        have HCO := Lib.hid hco
        have HLT := Lib.hid (fun k (hk : k < m) => at_lt (L := L) (by omega : 0 < s) HL.out hco haL hk); clear hco
        obtain ⟨wo, rfl⟩ : ∃ wo : World, wo = wr := ⟨_, rfl⟩
        go_wp2
        go_quiet (fail)
        go_wp2
        clear hte
        go_loopw [45] (fun i wr => ∃ k : Nat, k ≤ m ∧ i = .int .i64 k ∧ wr.rowIs gx 41 L (fun i => wd (mix (dft m (rt m)) s m X a 0 i)) ∧ (∃ p : Nat → Value, wr.rowIs (w.heap.size + 1) 41 m (fun i => if i < k then wd (X (a + i * s)) else p i)) ∧ wr.cell? ⟨w.heap.size, 1, none⟩ = some (.int .i64 m) ∧ Below gx w wr ∧ wr.cell? ⟨pc, 0, none⟩ = some (wd (rt m))) (fun i _ => m - (RowKit.intOf i).toNat)
        case atStart => exact ⟨0, Nat.zero_le _, rfl, rowIs_drewN QX.out _, ⟨p, (rowIs_drewN QL.out _).congr (fun i _ => by rw [if_neg (by omega)])⟩, qc, below_drewN QB.out _, qp⟩
        case round =>
          obtain ⟨k, hk, rfl, qx, ⟨p, ql⟩, qc, qb, qp⟩ := hrel
          clear QX QL QB
          by_cases hkm : k < m
          · obtain ⟨t, etk, hTn, hTl, hwt0, hks0⟩ := ix_s hLi (HLT.out k hkm)
            have hwt := congrArg (Value.int IntKind.i64) hwt0
            have hks := congrArg (Value.int IntKind.i64) hks0
            clear hwt0 hks0
            have hcx : wr.cell? ⟨gx, a + t, none⟩ = some (wd (X (a + t))) := by
              have := qx.cell (i := a + t) hTn
              rw [← etk, mix_old _ X (by omega) HCO.out hkm (Nat.zero_le _)] at this
              rw [← etk]; exact this
            have hcl : wr.cell? ⟨w.heap.size + 1, k, none⟩ = some (p k) := (ql.cell hkm).trans (by rw [if_neg (by omega)])
            have hfl : wr.frozen? ⟨w.heap.size + 1, k, none⟩ = false := ql.frozen k
            have QX := Lib.hid qx; have QL := Lib.hid ql; have QB := Lib.hid qb; have ETK := Lib.hid etk
            clear qx ql qb etk
            go_wp2
            go_roundw
            case rel =>
              refine ⟨k + 1, by omega, by go_num, QX.out.setOther (by simp; omega) _, ⟨p, (QL.out.set k _).congr (fun i _ => ?_)⟩, by go_simp, QB.out.setCell (by simp; omega) _, by go_simp⟩
              by_cases q : i = k
              · subst q; rw [if_pos rfl, if_pos (by omega), ETK.out]
              · rw [if_neg q]
                by_cases q2 : i < k
                · rw [if_pos q2, if_pos (by omega)]
                · rw [if_neg q2, if_neg (by omega)]
            case measure => simp [RowKit.intOf]; omega
          · have hkm' : k = m := by omega
            have HKM := Lib.hid hkm'; clear hkm'
            have QX := Lib.hid qx; have QL := Lib.hid ql; have QB := Lib.hid qb
            have hglt := ql.lt
            clear qx ql qb
            go_wp2_with fail
            refine (fwd1_any m (w.heap.size + 1) 0 m pc (fun i => X (a + i * s)) _ hm0 HD.out ?_ ?_ qp).mono ?_
            · exact hglt
            · intro i hi; rw [Nat.zero_add]; exact (QL.out.cell hi).trans (by rw [if_pos (Nat.lt_of_lt_of_eq hi HKM.out.symm)])
            rintro e w3 ⟨⟨g, rfl, hg, hr⟩, hb3⟩
            have hg' : w.heap.size + 1 < g := by omega
            have qx3 := Lib.hid (rowIs_below QX.out hb3 QX.out.lt)
            have ql3 := Lib.hid (rowIs_below QL.out hb3 QL.out.lt)
            have qc3 : w3.cell? ⟨w.heap.size, 1, none⟩ = some (.int .i64 m) := (hb3.cell (p := ⟨w.heap.size, 1, none⟩) (by simp; omega)).trans qc
            have qb3 := Lib.hid (QB.out.trans (hb3.mono (Nat.le_of_lt (by have := QX.out.lt; omega))))
            have qp3 : w3.cell? ⟨pc, 0, none⟩ = some (wd (rt m)) := (hb3.cell (p := ⟨pc, 0, none⟩) (by have := QB.out.size; simp; omega)).trans qp
            have HR3 := Lib.hid hr
            clear hr hb3 QX QL QB qc hg hglt
            go_wp2
            go_loopw [64] (fun i wr => ∃ k : Nat, k ≤ m ∧ i = .int .i64 k ∧ wr.rowIs gx 41 L (fun i => wd (mix (dft m (rt m)) s m X a k i)) ∧ wr.rowIs g 41 m (fun i => wd (dft m (rt m) (fun i => X (a + i * s)) i)) ∧ (∃ p : Nat → Value, wr.rowIs (w.heap.size + 1) 41 m p) ∧ wr.cell? ⟨w.heap.size, 1, none⟩ = some (.int .i64 m) ∧ Below gx w wr ∧ wr.cell? ⟨pc, 0, none⟩ = some (wd (rt m))) (fun i _ => m - (RowKit.intOf i).toNat)
            case atStart => exact ⟨0, Nat.zero_le _, rfl, qx3.out, HR3.out, ⟨_, ql3.out⟩, qc3, qb3.out, qp3⟩
            case round =>
              obtain ⟨k, hk, rfl, qx, qr, ⟨p, ql⟩, qc, qb, qp⟩ := hrel
              clear qx3 ql3 qb3 HR3
              by_cases hkm : k < m
              · obtain ⟨t, etk, hTn, hTl, hwt0, hks0⟩ := ix_s hLi (HLT.out k hkm)
                have hwt := congrArg (Value.int IntKind.i64) hwt0
                have hks := congrArg (Value.int IntKind.i64) hks0
                clear hwt0 hks0
                obtain ⟨ov, hcx⟩ : ∃ v, wr.cell? ⟨gx, a + t, none⟩ = some v := ⟨_, qx.cell (i := a + t) hTn⟩
                have hfx : wr.frozen? ⟨gx, a + t, none⟩ = false := qx.frozen _
                obtain ⟨z, ez⟩ : ∃ z, z = dft m (rt m) (fun i => X (a + i * s)) k := ⟨_, rfl⟩
                have hcg : wr.cell? ⟨g, k, none⟩ = some (wd z) := by rw [ez]; exact qr.cell hkm
                have EZ := Lib.hid ez; clear ez
                have QX := Lib.hid qx; have QL := Lib.hid ql; have QB := Lib.hid qb; have QR := Lib.hid qr; have ETK := Lib.hid etk
                clear qx ql qb qr etk
                go_wp2
                go_roundw
                case rel =>
                  refine ⟨k + 1, by omega, by go_num, (QX.out.set (a + t) _).congr (fun i _ => ?_), QR.out.setOther (by simp; omega) _, ⟨p, QL.out.setOther (by simp; omega) _⟩, by go_simp, QB.out.setCell (Nat.le_refl _) _, by go_simp⟩
                  rw [mix_step _ X (by omega) HCO.out hkm, ← ETK.out, ← EZ.out]
                  split <;> rfl
                case measure => simp [RowKit.intOf]; omega
              · have hkm' : k = m := by omega
                have HKM := Lib.hid hkm'; clear hkm'
                have QX := Lib.hid qx; have QL := Lib.hid ql; have QB := Lib.hid qb
                clear qx ql qb
                go_wp2
                go_roundw
                case rel => exact ⟨a + 1, by omega, by go_num, QX.out.congr (fun i _ => by rw [HKM.out, mix_all _ X hm0]), ⟨p, QL.out⟩, qc, QB.out, qp⟩
                case measure => simp [RowKit.intOf]; omega
      · have hte : ((wrap64 ((a : Int) / (s : Int))).tmod (m : Int) != 0) = true := by rw [co_test (by omega) hs0]; simp; omega
        go_wp2
        go_quiet (fail)
        go_wp2
        go_roundw
        case rel => exact ⟨a + 1, by omega, by go_num, (rowIs_drewN QX.out _).congr (fun i _ => by rw [mix_skip _ X hco]), ⟨p, rowIs_drewN QL.out _⟩, qc, below_drewN QB.out _, qp⟩
        case measure => simp [RowKit.intOf]; omega
    · have haL' : a = L := by omega
      have HAL := Lib.hid haL'; clear haL'
      go_wp2
      go_end0
      exact ⟨rfl, QX.out.congr (fun i hi => by rw [HAL.out, mix_end _ X hi]), QB.out⟩

set_option maxHeartbeats 8000000 in
set_option maxRecDepth 100000 in
theorem alongA2 (n0 n1 n2 s m L Q gx pc : Nat) (X : Nat → F) (w : World) (hm0 : 0 < m) (hmd : 192 % m = 0) (hs0 : 0 < s) (hM : m = n2) (hS : s = 1) (hb1 : n1 ≤ 192) (hb2 : n2 ≤ 192) (hL : L = Q * (m * s)) (hLb : L ≤ 262144) (hgx : gx < w.heap.size) (hpc : pc < w.heap.size) (hpg : gx < pc) (hcc : w.cell? ⟨pc, 0, none⟩ = some (wd (rt m))) (hrow : w.rowIs gx 41 L (fun i => wd (X i))) :
    Calls Try.prog 40 #[.agg #[.int .i64 n0, .int .i64 n1, .int .i64 n2], .slice (some ⟨gx, 0, none⟩) L L, .int .i64 2, .func (Fn.func 58) #[] #[.pointer (some ⟨pc, 0, none⟩)]] w fun e w' => e = .returned (.tuple #[]) ∧ w'.rowIs gx 41 L (fun i => wd (alongF (dft m (rt m)) s m X i)) ∧ Below gx w w' := by
  subst hM
  have hm1 := le_192 hmd
  have hmk := mk41 m (by omega)
  have hLi : (L : Int) ≤ 262144 := by omega
  clear hLb
  subst hS; have hS : True := trivial
  have HR := Lib.hid hrow; have HL := Lib.hid hL; have HMS := Lib.hid (And.intro hS hmd); have HD := Lib.hid hmd; clear hrow hL hS hmd
  have hb0 : gx < (w.alloc (.cells #[.int .i64 n0, .int .i64 n1, .int .i64 m] 23)).heap.size := by simp; omega
  have HM1 := Lib.hid ((w.alloc (.cells #[.int .i64 n0, .int .i64 n1, .int .i64 m] 23)).rowIs_made (.int .u64 0) m 41)
  have HM2 := Lib.hid ((HR.out.alloc (.cells #[.int .i64 n0, .int .i64 n1, .int .i64 m] 23)).alloc (.cells (madeCells #[.int .u64 0] m) 41))
  go_enter Try.func40, Try.ntmps40
  go_wp2
  refine wp_loop_rounds 1 ?_
  rw [rounds_succ]
  go_wp2
  
  go_loopw [32] (fun i wr => ∃ a : Nat, a ≤ L ∧ i = .int .i64 a ∧ wr.rowIs gx 41 L (fun i => wd (mix (dft m (rt m)) 1 m X a 0 i)) ∧ (∃ p : Nat → Value, wr.rowIs (w.heap.size + 1) 41 m p) ∧ wr.cell? ⟨w.heap.size, 2, none⟩ = some (.int .i64 m) ∧ Below gx w wr ∧ wr.cell? ⟨pc, 0, none⟩ = some (wd (rt m))) (fun i _ => L - (RowKit.intOf i).toNat)
  case atStart =>
    refine ⟨0, Nat.zero_le _, rfl, HM2.out.congr (fun i _ => by rw [mix_none]), ⟨_, by have := HM1.out; simp only [World.size_alloc] at this; exact this⟩, by go_simp, ((Below.refl _ _).alloc (by omega) _).alloc (by simp; omega) _, by go_simp⟩
  case round =>
    obtain ⟨a, ha, rfl, qx, ⟨p, ql⟩, qc, qb, qp⟩ := hrel
    have QX := Lib.hid qx; have QL := Lib.hid ql; have QB := Lib.hid qb
    clear qx ql qb HM1 HM2 hb0 HR hmk
    have hsi : ¬ (1 : Int) = 0 := by omega
    have hmi : ¬ (m : Int) = 0 := by omega
    have hgl : ¬ w.heap.size = gx := by omega
    have hgl1 : ¬ w.heap.size + 1 = gx := by omega
    by_cases haL : a < L
    · by_cases hco : co 1 m a = 0
      · have hte : ((a : Int) % (m : Int) != 0) = false := by rw [co_one, hco]; rfl
        have HCO := Lib.hid hco
        have HLT := Lib.hid (fun k (hk : k < m) => at_lt (L := L) (by omega : 0 < 1) HL.out hco haL hk); clear hco
        obtain ⟨wo, rfl⟩ : ∃ wo : World, wo = wr := ⟨_, rfl⟩
        go_wp2
        go_quiet (fail)
        go_wp2
        clear hte
        go_loopw [45] (fun i wr => ∃ k : Nat, k ≤ m ∧ i = .int .i64 k ∧ wr.rowIs gx 41 L (fun i => wd (mix (dft m (rt m)) 1 m X a 0 i)) ∧ (∃ p : Nat → Value, wr.rowIs (w.heap.size + 1) 41 m (fun i => if i < k then wd (X (a + i * 1)) else p i)) ∧ wr.cell? ⟨w.heap.size, 2, none⟩ = some (.int .i64 m) ∧ Below gx w wr ∧ wr.cell? ⟨pc, 0, none⟩ = some (wd (rt m))) (fun i _ => m - (RowKit.intOf i).toNat)
        case atStart => exact ⟨0, Nat.zero_le _, rfl, rowIs_drewN QX.out _, ⟨p, (rowIs_drewN QL.out _).congr (fun i _ => by rw [if_neg (by omega)])⟩, qc, below_drewN QB.out _, qp⟩
        case round =>
          obtain ⟨k, hk, rfl, qx, ⟨p, ql⟩, qc, qb, qp⟩ := hrel
          clear QX QL QB
          by_cases hkm : k < m
          · obtain ⟨etk, hTn, hTl, hwt0⟩ := ix_one hLi (HLT.out k hkm)
            have hwt := congrArg (Value.int IntKind.i64) hwt0
            clear hwt0
            have hcx : wr.cell? ⟨gx, a + k, none⟩ = some (wd (X (a + k))) := by
              have := qx.cell (i := a + k) hTn
              rw [← etk, mix_old _ X (by omega) HCO.out hkm (Nat.zero_le _)] at this
              rw [← etk]; exact this
            have hcl : wr.cell? ⟨w.heap.size + 1, k, none⟩ = some (p k) := (ql.cell hkm).trans (by rw [if_neg (by omega)])
            have hfl : wr.frozen? ⟨w.heap.size + 1, k, none⟩ = false := ql.frozen k
            have QX := Lib.hid qx; have QL := Lib.hid ql; have QB := Lib.hid qb; have ETK := Lib.hid etk
            clear qx ql qb etk
            go_wp2
            go_roundw
            case rel =>
              refine ⟨k + 1, by omega, by go_num, QX.out.setOther (by simp; omega) _, ⟨p, (QL.out.set k _).congr (fun i _ => ?_)⟩, by go_simp, QB.out.setCell (by simp; omega) _, by go_simp⟩
              by_cases q : i = k
              · subst q; rw [if_pos rfl, if_pos (by omega), ETK.out]
              · rw [if_neg q]
                by_cases q2 : i < k
                · rw [if_pos q2, if_pos (by omega)]
                · rw [if_neg q2, if_neg (by omega)]
            case measure => simp [RowKit.intOf]; omega
          · have hkm' : k = m := by omega
            have HKM := Lib.hid hkm'; clear hkm'
            have QX := Lib.hid qx; have QL := Lib.hid ql; have QB := Lib.hid qb
            have hglt := ql.lt
            clear qx ql qb
            go_wp2_with fail
            refine (fwd1_any m (w.heap.size + 1) 0 m pc (fun i => X (a + i * 1)) _ hm0 HD.out ?_ ?_ qp).mono ?_
            · exact hglt
            · intro i hi; rw [Nat.zero_add]; exact (QL.out.cell hi).trans (by rw [if_pos (Nat.lt_of_lt_of_eq hi HKM.out.symm)])
            rintro e w3 ⟨⟨g, rfl, hg, hr⟩, hb3⟩
            have hg' : w.heap.size + 1 < g := by omega
            have qx3 := Lib.hid (rowIs_below QX.out hb3 QX.out.lt)
            have ql3 := Lib.hid (rowIs_below QL.out hb3 QL.out.lt)
            have qc3 : w3.cell? ⟨w.heap.size, 2, none⟩ = some (.int .i64 m) := (hb3.cell (p := ⟨w.heap.size, 2, none⟩) (by simp; omega)).trans qc
            have qb3 := Lib.hid (QB.out.trans (hb3.mono (Nat.le_of_lt (by have := QX.out.lt; omega))))
            have qp3 : w3.cell? ⟨pc, 0, none⟩ = some (wd (rt m)) := (hb3.cell (p := ⟨pc, 0, none⟩) (by have := QB.out.size; simp; omega)).trans qp
            have HR3 := Lib.hid hr
            clear hr hb3 QX QL QB qc hg hglt
            go_wp2
            go_loopw [64] (fun i wr => ∃ k : Nat, k ≤ m ∧ i = .int .i64 k ∧ wr.rowIs gx 41 L (fun i => wd (mix (dft m (rt m)) 1 m X a k i)) ∧ wr.rowIs g 41 m (fun i => wd (dft m (rt m) (fun i => X (a + i * 1)) i)) ∧ (∃ p : Nat → Value, wr.rowIs (w.heap.size + 1) 41 m p) ∧ wr.cell? ⟨w.heap.size, 2, none⟩ = some (.int .i64 m) ∧ Below gx w wr ∧ wr.cell? ⟨pc, 0, none⟩ = some (wd (rt m))) (fun i _ => m - (RowKit.intOf i).toNat)
            case atStart => exact ⟨0, Nat.zero_le _, rfl, qx3.out, HR3.out, ⟨_, ql3.out⟩, qc3, qb3.out, qp3⟩
            case round =>
              obtain ⟨k, hk, rfl, qx, qr, ⟨p, ql⟩, qc, qb, qp⟩ := hrel
              clear qx3 ql3 qb3 HR3
              by_cases hkm : k < m
              · obtain ⟨etk, hTn, hTl, hwt0⟩ := ix_one hLi (HLT.out k hkm)
                have hwt := congrArg (Value.int IntKind.i64) hwt0
                clear hwt0
                obtain ⟨ov, hcx⟩ : ∃ v, wr.cell? ⟨gx, a + k, none⟩ = some v := ⟨_, qx.cell (i := a + k) hTn⟩
                have hfx : wr.frozen? ⟨gx, a + k, none⟩ = false := qx.frozen _
                obtain ⟨z, ez⟩ : ∃ z, z = dft m (rt m) (fun i => X (a + i * 1)) k := ⟨_, rfl⟩
                have hcg : wr.cell? ⟨g, k, none⟩ = some (wd z) := by rw [ez]; exact qr.cell hkm
                have EZ := Lib.hid ez; clear ez
                have QX := Lib.hid qx; have QL := Lib.hid ql; have QB := Lib.hid qb; have QR := Lib.hid qr; have ETK := Lib.hid etk
                clear qx ql qb qr etk
                go_wp2
                go_roundw
                case rel =>
                  refine ⟨k + 1, by omega, by go_num, (QX.out.set (a + k) _).congr (fun i _ => ?_), QR.out.setOther (by simp; omega) _, ⟨p, QL.out.setOther (by simp; omega) _⟩, by go_simp, QB.out.setCell (Nat.le_refl _) _, by go_simp⟩
                  rw [mix_step _ X (by omega) HCO.out hkm, Nat.mul_one, ← EZ.out]
                  split <;> rfl
                case measure => simp [RowKit.intOf]; omega
              · have hkm' : k = m := by omega
                have HKM := Lib.hid hkm'; clear hkm'
                have QX := Lib.hid qx; have QL := Lib.hid ql; have QB := Lib.hid qb
                clear qx ql qb
                go_wp2
                go_roundw
                case rel => exact ⟨a + 1, by omega, by go_num, QX.out.congr (fun i _ => by rw [HKM.out, mix_all _ X hm0]), ⟨p, QL.out⟩, qc, QB.out, qp⟩
                case measure => simp [RowKit.intOf]; omega
      · have hte : ((a : Int) % (m : Int) != 0) = true := by rw [co_one]; simp; omega
        go_wp2
        go_quiet (fail)
        go_wp2
        go_roundw
        case rel => exact ⟨a + 1, by omega, by go_num, (rowIs_drewN QX.out _).congr (fun i _ => by rw [mix_skip _ X hco]), ⟨p, rowIs_drewN QL.out _⟩, qc, below_drewN QB.out _, qp⟩
        case measure => simp [RowKit.intOf]; omega
    · have haL' : a = L := by omega
      have HAL := Lib.hid haL'; clear haL'
      go_wp2
      go_end0
      exact ⟨rfl, QX.out.congr (fun i hi => by rw [HAL.out, mix_end _ X hi]), QB.out⟩

end Go.Proofs.Ytjmhnmlmnlefaaa
