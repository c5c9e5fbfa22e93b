/-
  The law NttProducts.
-/
import Derived.Test.YtjmhnmlmnlefaaaNttAB
namespace Go.Proofs.Ytjmhnmlmnlefaaa
open Go.RowKit Go.Lib
attribute [local irreducible] World.setCell
set_option linter.unusedSimpArgs false
set_option linter.unusedVariables false


structure PS (w2 : World) (gz n : Nat) (f : Nat → Value) (X : World) : Prop where
  below : Below w2.heap.size w2 X
  size : w2.heap.size < X.heap.size
  c3 : X.cell? ⟨w2.heap.size, 3, none⟩ = some (.slice (some ⟨gz, 0, none⟩) n n)
  row : X.rowIs gz 3 n f
set_option maxHeartbeats 8000000 in
set_option maxRecDepth 100000 in
theorem products_good (ba oa ka bb ob kb n : Nat) (V W : Nat → Int) (w : World) (hr : rightB n = true) (hba : ba < w.heap.size) (hbb : bb < w.heap.size)
    (hV : ∀ i, i < n → w.cell? ⟨ba, oa + i, none⟩ = some (.int .i64 (V i))) (hVb : ∀ i, i < n → -1048576 ≤ V i ∧ V i ≤ 1048576) (hW : ∀ i, i < n → w.cell? ⟨bb, ob + i, none⟩ = some (.int .i64 (W i))) (hWb : ∀ i, i < n → -1048576 ≤ W i ∧ W i ≤ 1048576) :
    Calls Try.prog 5 #[.slice (some ⟨ba, oa, none⟩) n ka, .slice (some ⟨bb, ob, none⟩) n kb] w fun e w' => e = .returned (.bool true) ∧ Below w.heap.size w w' := by
  obtain ⟨i0, hi, hz0, hz1, hz2⟩ := info_parts info41
  have hn := (right_le hr).2.2
  have h0 := (right_le hr).1
  have HN := Lib.hid (right_le hr)
  have HN1 := Lib.hid hr
  have HV := Lib.hid hV; have HW := Lib.hid hW; have HVB := Lib.hid hVb; have HWB := Lib.hid hWb
  have HFO := Lib.hid (fun w' (hb : Below w.heap.size w w') => Fold_ok n 1 1 n ba oa ka bb ob kb V W w' ⟨hr, right_1, right_1⟩ (by omega) (by omega) (Nat.lt_of_lt_of_le hba hb.size) (Nat.lt_of_lt_of_le hbb hb.size) (fun i hi => (hb.cell (p := ⟨ba, oa + i, none⟩) hba).trans (hV i hi)) hVb (fun i hi => (hb.cell (p := ⟨bb, ob + i, none⟩) hbb).trans (hW i hi)) hWb)
  have HZB := Lib.hid (fun i (hi : i < n) => fold_bound (n0 := n) (n1 := 1) (n2 := 1) (L := n) ⟨right_le hr, right_le right_1, right_le right_1, (by omega), (by omega)⟩ hVb hWb i)
  clear hr hV hW hVb hWb
  go_enter Try.func5, Try.ntmps5
  go_wp2_with fail
  refine (awake_any _).mono ?_
  rintro e w1 ⟨rfl, hb1⟩
  have HB := Lib.hid hb1; clear hb1
  go_wp2_with fail
  refine (HFO.out _ HB.out).mono ?_
  rintro e w2 ⟨⟨gz, rfl, hgz, hrz⟩, hb2⟩
  have HB2 := Lib.hid (HB.out.trans (hb2.mono HB.out.size))
  have hl2 := HB2.out.size
  have hgzl : gz < w2.heap.size := hrz.lt
  have RZ := Lib.hid hrz
  clear hb2 HFO HB hrz hgz
  obtain ⟨Z, eZ⟩ : ∃ Z, Z = foldZ n 1 1 V W := ⟨_, rfl⟩
  have EZ := Lib.hid eZ
  rw [← eZ] at RZ HZB
  clear eZ
  go_wp2
  refine wp_abs (PS w2 gz n (fun i => .int .i64 (Z i))) ⟨(by repeat (first | assumption | exact Below.refl _ _ | refine below_drewN ?_ _ | refine Below.alloc ?_ (by first | (simp; done) | (simp; omega) | omega) _ | refine Below.setCell ?_ (by first | (simp; done) | (simp; omega) | omega) _)), by simp, by go_simp, ?_⟩ ?_
  · exact RZ.out.of_block (Below.block (B := w2.heap.size) (w := w2) ((by repeat (first | assumption | exact Below.refl _ _ | refine below_drewN ?_ _ | refine Below.alloc ?_ (by first | (simp; done) | (simp; omega) | omega) _ | refine Below.setCell ?_ (by first | (simp; done) | (simp; omega) | omega) _))) gz hgzl)
  intro w3 hps
  obtain ⟨hb3, hs3, c3, hrz⟩ := hps
  have HB3 := Lib.hid (HB2.out.trans (hb3.mono HB2.out.size))
  have RZ3 := Lib.hid hrz
  have C3 := Lib.hid c3
  have hl3 : w.heap.size ≤ w3.heap.size := HB3.out.size
  have hgl3 : gz < w3.heap.size := hrz.lt
  clear hb3 hrz c3 RZ HB2
  go_loopw [46, 8, 9] (fun i v1 v2 wr => ∃ j : Nat, j ≤ n ∧ i = .int .i64 j ∧ wr.ownsRow w3.heap.size 41 1 v1 j (LW j (fun i => iF (V i))) ∧ wr.ownsRow w3.heap.size 41 1 v2 j (LW j (fun i => iF (W i))) ∧ (∀ k, v1.ownBlock = some k → v2.ownBlock ≠ some k) ∧ Below w3.heap.size w3 wr) (fun i _ _ _ => n - (RowKit.intOf i).toNat)
  case atStart => exact ⟨0, Nat.zero_le _, rfl, World.ownsRow_nil _ _ _ _, World.ownsRow_nil _ _ _ _, fun k hk => (by cases hk), Below.refl _ _⟩
  case round =>
    obtain ⟨j, hj, rfl, hO1, hO2, hap, hbel⟩ := hrel
    have HO1 := Lib.hid hO1; have HO2 := Lib.hid hO2; have HAP := Lib.hid hap; have HBL := Lib.hid hbel
    have hwl := hbel.size
    clear hO1 hO2 hap hbel
    by_cases hjn : j < n
    · have hba3 : ba < w3.heap.size := Nat.lt_of_lt_of_le hba HB3.out.size
      have hbb3 : bb < w3.heap.size := Nat.lt_of_lt_of_le hbb HB3.out.size
      obtain ⟨vj, evj⟩ : ∃ v, v = V j := ⟨_, rfl⟩
      obtain ⟨uj, euj⟩ : ∃ v, v = W j := ⟨_, rfl⟩
      have hvj := HVB.out j hjn
      have huj := HWB.out j hjn
      have hBr := Lib.hid (HB3.out.trans (HBL.out.mono HB3.out.size))
      have c1 : wr.cell? ⟨ba, oa + j, none⟩ = some (.int .i64 vj) := by rw [evj]; exact (hBr.out.cell (p := ⟨ba, oa + j, none⟩) hba).trans (HV.out j hjn)
      have c2' : wr.cell? ⟨bb, ob + j, none⟩ = some (.int .i64 uj) := by rw [euj]; exact (hBr.out.cell (p := ⟨bb, ob + j, none⟩) hbb).trans (HW.out j hjn)
      have C2 := Lib.hid c2'
      rw [← evj] at hvj
      rw [← euj] at huj
      have EVJ := Lib.hid evj; have EUJ := Lib.hid euj
      clear evj euj c2' hBr
      have hvj' := Lib.hid (show -288230376151711744 ≤ vj ∧ vj ≤ 288230376151711744 by omega)
      have huj' := Lib.hid (show -288230376151711744 ≤ uj ∧ uj ≤ 288230376151711744 by omega)
      clear hvj huj
      have hjl : (j : Int) < (n : Int) := by omega
      go_wp2_with (first | (go_at_call 22; refine (word_any _ hvj'.out _).mono ?_; rintro e w' ⟨rfl, rfl⟩) | (at_builtin; refine wpList_append_apart rfl _ _ 40 rfl w3.heap.size 41 i0 (.int .u64 0) 8 Try.underlying40 hi hz0 hz1 hz2 rfl _ _ _ rfl (HO1.out.alloc _) ⟨wr.heap.size, 0, none⟩ 1 (wd (iF vj)) rfl ?d1 rfl ?d3 ?d4 ?d5 ?_))
      case d1 => first | rfl | go_simp
      case d3 => unfold maxLen; omega
      case d4 => omega
      case d5 => first | omega | (simp; omega)
      intro v1' w4 hown' hgrow hbk
      have P1 := Lib.hid (show w4.ownsRow w3.heap.size 41 1 v1' (j + 1) (LW (j + 1) (fun i => iF (V i))) by rw [LW_succ, ← EVJ.out]; exact hown')
      have P2 := Lib.hid ((HO2.out.alloc (.cells #[wd (iF vj)] 41)).kept hgrow (apart_of HAP.out))
      have PA := Lib.hid (apart_next HAP.out hbk (fun k hk => Nat.lt_succ_of_lt (HO2.out.lt k hk).2))
      have PB := Lib.hid ((HBL.out.alloc hwl _).grown hgrow (by simp; omega) (fun k hk => (HO1.out.lt k hk).1))
      have hw4 := PB.out.size
      have c2 : w4.cell? ⟨bb, ob + j, none⟩ = some (.int .i64 uj) := (PB.out.cell (p := ⟨bb, ob + j, none⟩) hbb3).trans ((HBL.out.cell (p := ⟨bb, ob + j, none⟩) hbb3).symm.trans C2.out)
      clear hown' hgrow hbk HO1 HO2 HAP HBL c1
      go_wp2_with (first | (go_at_call 22; refine (word_any _ huj'.out _).mono ?_; rintro e w' ⟨rfl, rfl⟩) | (at_builtin; refine wpList_append_apart rfl _ _ 40 rfl w3.heap.size 41 i0 (.int .u64 0) 8 Try.underlying40 hi hz0 hz1 hz2 rfl _ _ _ rfl (P2.out.alloc _) ⟨w4.heap.size, 0, none⟩ 1 (wd (iF uj)) rfl ?d1 rfl ?d3 ?d4 ?d5 ?_))
      case d1 => first | rfl | go_simp
      case d3 => unfold maxLen; omega
      case d4 => omega
      case d5 => first | omega | (simp; omega)
      intro v2' w5 hown' hgrow hbk
      have Q2 := Lib.hid (show w5.ownsRow w3.heap.size 41 1 v2' (j + 1) (LW (j + 1) (fun i => iF (W i))) by rw [LW_succ, ← EUJ.out]; exact hown')
      have Q1 := Lib.hid ((P1.out.alloc (.cells #[wd (iF uj)] 41)).kept hgrow (apart_of (apart_swap PA.out)))
      have QA := Lib.hid (apart_swap (apart_next (apart_swap PA.out) hbk (fun k hk => Nat.lt_succ_of_lt (P1.out.lt k hk).2)))
      have QB := Lib.hid ((PB.out.alloc hw4 _).grown hgrow (by simp; omega) (fun k hk => (P2.out.lt k hk).1))
      clear hown' hgrow hbk P1 P2 PA PB c2
      go_wp2
      go_roundw
      case rel => exact ⟨j + 1, by omega, by go_num, Q1.out, Q2.out, QA.out, QB.out⟩
      case measure => simp [RowKit.intOf]; omega
    · rename World => wq
      have hjn' : j = n := by omega
      have T1 := Lib.hid (rd_made (show Made wq w3.heap.size u8 n (fun i => iF (V i)) by have := HO1.out; rw [hjn'] at this; exact this))
      have T2 := Lib.hid (rd_made (show Made wq w3.heap.size u9 n (fun i => iF (W i)) by have := HO2.out; rw [hjn'] at this; exact this))
      have TA := Lib.hid (show wq.rowIs gz 3 n (fun i => .int .i64 (Z i)) from rowIs_below RZ3.out HBL.out hgl3)
      have TB := Lib.hid (HB3.out.trans (HBL.out.mono HB3.out.size))
      have c3 : wq.cell? ⟨w2.heap.size, 3, none⟩ = some (.slice (some ⟨gz, 0, none⟩) n n) := (HBL.out.cell (p := ⟨w2.heap.size, 3, none⟩) hs3).trans C3.out
      have hs3r : w2.heap.size < wq.heap.size := Nat.lt_of_lt_of_le hs3 hwl
      clear HO1 HO2 HAP HBL hjn' RZ3 HB3 HV HW HVB HWB C3
      go_wp2
      clear hwl hj hjn
      go_loopw [69, 10] (fun i v1 wr => ∃ j : Nat, j ≤ n ∧ i = .int .i64 j ∧ wr.ownsRow wq.heap.size 41 1 v1 j (LW j (fun i => iF (Z i))) ∧ Below wq.heap.size wq wr) (fun i _ _ => n - (RowKit.intOf i).toNat)
      case atStart => exact ⟨0, Nat.zero_le _, rfl, World.ownsRow_nil _ _ _ _, Below.refl _ _⟩
      case round =>
        obtain ⟨j, hj, rfl, hO1, hbel⟩ := hrel
        have HO1 := Lib.hid hO1; have HBL := Lib.hid hbel
        have hwl := hbel.size
        clear hO1 hbel
        by_cases hjn : j < n
        · have hz := HZB.out j hjn
          obtain ⟨zj, ezj⟩ : ∃ z, z = Z j := ⟨_, rfl⟩
          have c1 : wr.cell? ⟨gz, j, none⟩ = some (.int .i64 zj) := by rw [ezj]; exact (rowIs_below TA.out HBL.out TA.out.lt).cell hjn
          rw [← ezj] at hz
          have HZ := Lib.hid (show -288230376151711744 ≤ zj ∧ zj ≤ 288230376151711744 by omega)
          have EZJ := Lib.hid ezj
          have hjl : (j : Int) < (n : Int) := by omega
          clear hz ezj
          go_wp2_with (first | (go_at_call 22; refine (word_any _ HZ.out _).mono ?_; rintro e w' ⟨rfl, rfl⟩) | (at_builtin; refine wpList_append_apart rfl _ _ 40 rfl wq.heap.size 41 i0 (.int .u64 0) 8 Try.underlying40 hi hz0 hz1 hz2 rfl _ _ _ rfl (HO1.out.alloc _) ⟨wr.heap.size, 0, none⟩ 1 (wd (iF zj)) rfl ?d1 rfl ?d3 ?d4 ?d5 ?_))
          case d1 => first | rfl | go_simp
          case d3 => unfold maxLen; omega
          case d4 => omega
          case d5 => first | omega | (simp; omega)
          intro v1' w4 hown' hgrow hbk
          have P1 := Lib.hid (show w4.ownsRow wq.heap.size 41 1 v1' (j + 1) (LW (j + 1) (fun i => iF (Z i))) by rw [LW_succ, ← EZJ.out]; exact hown')
          have PB := Lib.hid ((HBL.out.alloc hwl _).grown hgrow (by simp; omega) (fun k hk => (HO1.out.lt k hk).1))
          clear hown' hgrow hbk HO1 HBL c1
          go_wp2
          go_roundw
          case rel => exact ⟨j + 1, by omega, by go_num, P1.out, PB.out⟩
          case measure => simp [RowKit.intOf]; omega
        · have hjn' : j = n := by omega
          have T3 := Lib.hid (rd_made (show Made wr wq.heap.size u10 n (fun i => iF (Z i)) by have := HO1.out; rw [hjn'] at this; exact this))
          have U1 := Lib.hid (T1.out.below HBL.out)
          have U2 := Lib.hid (T2.out.below HBL.out)
          have UB := Lib.hid (TB.out.trans (HBL.out.mono TB.out.size))
          clear HO1 HBL hjn' T1 T2 TA TB
          go_wp2_with fail
          refine (good_line (by exact HN1.out) U1.out).line.mono ?_
          rintro e w4 ⟨⟨vx, rfl, m1⟩, hb4⟩
          have B4 := Lib.hid (UB.out.trans (hb4.mono UB.out.size))
          have M1 := Lib.hid (rd_made m1)
          have U24 := Lib.hid (U2.out.below hb4)
          have T34 := Lib.hid (T3.out.below hb4)
          clear m1 hb4 U1 U2 UB T3
          go_wp2_with fail
          refine (good_line (by exact HN1.out) U24.out).line.mono ?_
          rintro e w5 ⟨⟨vy, rfl, m2⟩, hb5⟩
          have B5 := Lib.hid (B4.out.trans (hb5.mono B4.out.size))
          have M2 := Lib.hid (rd_made m2)
          have M15 := Lib.hid (M1.out.below hb5)
          have T35 := Lib.hid (T34.out.below hb5)
          clear m2 hb5 U24 T34 M1 B4
          go_wp2_with fail
          refine (good_line (by exact HN1.out) T35.out).line.mono ?_
          rintro e w6 ⟨⟨vz, rfl, m3⟩, hb6⟩
          have B6 := Lib.hid (B5.out.trans (hb6.mono B5.out.size))
          obtain ⟨a1, k1, rfl, q1⟩ := M15.out.below hb6
          obtain ⟨a2, k2, rfl, q2⟩ := M2.out.below hb6
          obtain ⟨a3, k3, rfl, q3⟩ := rd_made m3
          obtain ⟨g1, o1, rfl, _, hw1⟩ := q1 h0
          obtain ⟨g2, o2, rfl, _, hw2⟩ := q2 h0
          obtain ⟨g3, o3, rfl, _, hw3⟩ := q3 h0
          have HW1 := Lib.hid hw1; have HW2 := Lib.hid hw2; have HW3 := Lib.hid hw3
          clear m3 hb6 T35 B5 M15 M2 hw1 hw2 hw3 q1 q2 q3
          go_wp2
          go_loopw [124] (fun i wl => ∃ j q : Nat, j ≤ n ∧ i = .int .i64 j ∧ wl = w6.drewN q) (fun i _ => n - (RowKit.intOf i).toNat)
          case atStart => exact ⟨0, 0, Nat.zero_le _, rfl, rfl⟩
          case round =>
            obtain ⟨j, q, hj, rfl, rfl⟩ := hrel
            by_cases hjn : j < n
            · obtain ⟨xj, exj⟩ : ∃ a, a = dft n (rt n) (fun i => iF (V i)) j := ⟨_, rfl⟩
              obtain ⟨yj, eyj⟩ : ∃ a, a = dft n (rt n) (fun i => iF (W i)) j := ⟨_, rfl⟩
              have d1 : w6.cell? ⟨g1, o1 + j, none⟩ = some (wd xj) := by rw [exj]; exact HW1.out j hjn
              have d2 : w6.cell? ⟨g2, o2 + j, none⟩ = some (wd yj) := by rw [eyj]; exact HW2.out j hjn
              have d3 : w6.cell? ⟨g3, o3 + j, none⟩ = some (wd (xj * yj)) := by
                have := HW3.out j hjn
                rw [dft_congr (y := fold n (fun i => iF (V i)) (fun i => iF (W i))) (fun i hi => by rw [EZ.out]; exact iF_line hi V W), dft_fold h0 (rt_one h0 HN.out.2.1), ← exj, ← eyj] at this
                exact this
              have hjl : (j : Int) < (n : Int) := by omega
              clear exj eyj
              go_wp2
              go_quiet ((go_at_call 24; first | exact quiet_at (rmul_any _ _ _) ⟨_, rfl⟩ | exact quiet_at2 (rmul_any _ _ _) ⟨_, rfl⟩))
              go_wp2
              go_roundw
              case rel => exact ⟨j + 1, _, by omega, by go_num, rfl⟩
              case measure => simp [RowKit.intOf]; omega
            · go_wp2
              go_ret
              exact ⟨rfl, below_drewN B6.out _⟩
theorem products_any {va vb : Value} {na nb : Nat} {V W : Nat → Int} {w : World} (hA : Rd w va na (fun i => .int .i64 (V i))) (hB : Rd w vb nb (fun i => .int .i64 (W i))) (hla : na ≤ 17592186044416) (hlb : nb ≤ 17592186044416) :
    Calls Try.prog 5 #[va, vb] w fun e w' => e = .returned (.bool true) ∧ Below w.heap.size w w' := by
  obtain ⟨ca, hca, hga, hpa, _⟩ := grid_code na 1 1 va na V w hA hla
  obtain ⟨cb, hcb, hgb, hpb, _⟩ := grid_code nb 1 1 vb nb W w hB hlb
  by_cases hf : fcode na 1 1 nb 1 1 ca cb = 0
  · obtain ⟨ea, eb, en, _, _⟩ := fcode_zero hf hca.1 hcb.1
    have en' : na = nb := by omega
    subst en'
    have ga := hga ea; have gb := hgb eb
    obtain ⟨a, ka, rfl, hA⟩ := hA
    obtain ⟨b, kb, rfl, hB⟩ := hB
    have h0 := (right_le ga.r0).1
    obtain ⟨ba, oa, rfl, hla, hV⟩ := hA h0
    obtain ⟨bb, ob, rfl, hlb, hW⟩ := hB h0
    exact products_good ba oa ka bb ob kb na V W w ga.r0 hla hlb hV ga.hV hW gb.hV
  · refine products_bad va vb na nb _ w hf (by obtain ⟨a, k, rfl, _⟩ := hA; exact ⟨a, k, rfl⟩) (by obtain ⟨a, k, rfl, _⟩ := hB; exact ⟨a, k, rfl⟩) fun w' hb => ?_
    exact Fold_bad na 1 1 nb 1 1 ca cb va vb w' hf (fun w'' h => hpa w'' (hb.trans (h.mono hb.size))) (fun w'' h => hpb w'' (hb.trans (h.mono hb.size)))

end Go.Proofs.Ytjmhnmlmnlefaaa
