/-
  The document's errors of grids.
-/
import Derived.Test.YtjmhnmlmnlefaaaNttY
namespace Go.Proofs.Ytjmhnmlmnlefaaa
open Go.RowKit Go.Lib
attribute [local irreducible] World.setCell
set_option linter.unusedSimpArgs false
set_option linter.unusedVariables false


/-- The least of two errors. -/
def least2 (e f : Int) : Int := if e = 0 ∨ (f ≠ 0 ∧ f < e) then f else e
set_option maxHeartbeats 2000000 in
theorem least_any (e f : Int) (g cap : Nat) (w : World) (h0 : w.cell? ⟨g, 0, none⟩ = some (.int .i64 e)) (h1 : w.cell? ⟨g, 1, none⟩ = some (.int .i64 f)) : Calls Try.prog 42 #[.slice (some ⟨g, 0, none⟩) 2 cap] w fun r w' => r = .returned (.int .i64 (least2 e f)) ∧ w = w' := by
  by_cases a : e = 0
  · subst a
    have hc : least2 0 f = f := by unfold least2; rw [if_pos (.inl rfl)]
    have HC := Lib.hid hc; clear hc
    go_enter Try.func42, Try.ntmps42
    go_wp2
    refine wp_loop_rounds 3 ?_
    rw [rounds_succ]
    go_wp2
    rw [rounds_succ]
    go_wp2
    rw [rounds_succ]
    go_wp2
    go_ret
    exact ⟨by rw [HC.out]; rfl, rfl⟩
  have a' : (e == 0) = false := by rw [beq_eq_false_iff_ne]; exact a
  by_cases b : f = 0
  · subst b
    have hc : least2 e 0 = e := by unfold least2; rw [if_neg (by omega)]
    have HC := Lib.hid hc; clear hc
    go_enter Try.func42, Try.ntmps42
    go_wp2
    refine wp_loop_rounds 3 ?_
    rw [rounds_succ]
    go_wp2
    rw [rounds_succ]
    go_wp2
    rw [rounds_succ]
    go_wp2
    go_ret
    exact ⟨by rw [HC.out]; rfl, rfl⟩
  have b' : (f == 0) = false := by rw [beq_eq_false_iff_ne]; exact b
  by_cases c : f < e
  · have hc : least2 e f = f := by unfold least2; rw [if_pos (.inr ⟨b, c⟩)]
    have HC := Lib.hid hc; clear hc
    go_enter Try.func42, Try.ntmps42
    go_wp2
    refine wp_loop_rounds 3 ?_
    rw [rounds_succ]
    go_wp2
    rw [rounds_succ]
    go_wp2
    rw [rounds_succ]
    go_wp2
    go_ret
    exact ⟨by rw [HC.out]; rfl, rfl⟩
  · have hc : least2 e f = e := by unfold least2; rw [if_neg (by omega)]
    have HC := Lib.hid hc; clear hc
    go_enter Try.func42, Try.ntmps42
    go_wp2
    refine wp_loop_rounds 3 ?_
    rw [rounds_succ]
    go_wp2
    rw [rounds_succ]
    go_wp2
    rw [rounds_succ]
    go_wp2
    go_ret
    exact ⟨by rw [HC.out]; rfl, rfl⟩
/-- Products of three sides. -/
theorem sides_prod {n0 n1 n2 : Nat} (r0 : n0 ≤ 192) (r1 : n1 ≤ 192) (r2 : n2 ≤ 192) : ∃ q p : Nat, n0 * n1 * n2 = p ∧ p ≤ 7077888 ∧ Value.int IntKind.i64 (wrap64 ((n0 : Int) * (n1 : Int))) = .int .i64 q ∧ Value.int IntKind.i64 (wrap64 ((q : Int) * (n2 : Int))) = .int .i64 p := by
  have qb : n0 * n1 ≤ 36864 := Nat.mul_le_mul r0 r1
  have pb : n0 * n1 * n2 ≤ 7077888 := Nat.mul_le_mul qb r2
  refine ⟨n0 * n1, n0 * n1 * n2, rfl, pb, ?_, ?_⟩
  · rw [← Int.natCast_mul, wrap_id _ (by omega) (by omega)]
  · rw [← Int.natCast_mul, wrap_id _ (by omega) (by omega)]
set_option maxHeartbeats 2000000 in
set_option maxRecDepth 100000 in
theorem sides_any (n0 n1 n2 : Nat) (w : World) (r0 : 0 < n0 ∧ n0 ≤ 192) (r1 : 0 < n1 ∧ n1 ≤ 192) (r2 : 0 < n2 ∧ n2 ≤ 192) : Calls Try.prog 56 #[.agg #[.int .i64 n0, .int .i64 n1, .int .i64 n2]] w fun e w' => e = .returned (.int .i64 (if 262144 < n0 * n1 * n2 then 2 else 0)) ∧ Below w.heap.size w w' := by
  obtain ⟨q, p, ep, pb, hq, hp⟩ := sides_prod r0.2 r1.2 r2.2
  have hpi : (p : Int) ≤ 7077888 := by omega
  rw [ep]
  have a0 : (1 : Int) ≤ n0 ∧ (n0 : Int) ≤ 192 := by omega
  have a1 : (1 : Int) ≤ n1 ∧ (n1 : Int) ≤ 192 := by omega
  have a2 : (1 : Int) ≤ n2 ∧ (n2 : Int) ≤ 192 := by omega
  obtain ⟨a00, a01⟩ := a0; obtain ⟨a10, a11⟩ := a1; obtain ⟨a20, a21⟩ := a2
  clear ep pb r0 r1 r2
  by_cases c : (262144 : Int) < (p : Int)
  · have hc : (if 262144 < p then (2 : Int) else 0) = 2 := if_pos (by omega)
    have HC := Lib.hid hc; clear hc
    go_enter Try.func56, Try.ntmps56
    go_wp2
    refine wp_loop_rounds 4 ?_
    rw [rounds_succ]
    go_wp2
    rw [rounds_succ]
    go_wp2
    rw [rounds_succ]
    go_wp2
    rw [rounds_succ]
    go_wp2
    go_ret
    exact ⟨rfl, (by repeat (first | assumption | exact Below.refl _ _ | refine below_drewN ?_ _ | refine Below.alloc ?_ (by first | (simp; done) | (simp; omega) | omega) _ | refine Below.setCell ?_ (by first | (simp; done) | (simp; omega) | omega) _))⟩
  · have hc : (if 262144 < p then (2 : Int) else 0) = 0 := if_neg (by omega)
    have HC := Lib.hid hc; clear hc
    go_enter Try.func56, Try.ntmps56
    go_wp2
    refine wp_loop_rounds 4 ?_
    rw [rounds_succ]
    go_wp2
    rw [rounds_succ]
    go_wp2
    rw [rounds_succ]
    go_wp2
    rw [rounds_succ]
    go_wp2
    go_ret
    exact ⟨rfl, (by repeat (first | assumption | exact Below.refl _ _ | refine below_drewN ?_ _ | refine Below.alloc ?_ (by first | (simp; done) | (simp; omega) | omega) _ | refine Below.setCell ?_ (by first | (simp; done) | (simp; omega) | omega) _))⟩
set_option maxHeartbeats 2000000 in
set_option maxRecDepth 100000 in
theorem places_any (n0 n1 n2 : Nat) (w : World) (r0 : n0 ≤ 192) (r1 : n1 ≤ 192) (r2 : n2 ≤ 192) : Calls Try.prog 57 #[.agg #[.int .i64 n0, .int .i64 n1, .int .i64 n2]] w fun e w' => e = .returned (.int .i64 (n0 * n1 * n2 : Nat)) ∧ Below w.heap.size w w' := by
  obtain ⟨q, p, ep, pb, hq, hp⟩ := sides_prod r0 r1 r2
  rw [ep]
  clear ep pb r0 r1 r2
  go_enter Try.func57, Try.ntmps57
  go_wp2
  go_ret
  exact ⟨congrArg Ending.returned hp, (by repeat (first | assumption | exact Below.refl _ _ | refine below_drewN ?_ _ | refine Below.alloc ?_ (by first | (simp; done) | (simp; omega) | omega) _ | refine Below.setCell ?_ (by first | (simp; done) | (simp; omega) | omega) _))⟩

set_option maxHeartbeats 1000000 in
theorem rchk_bad0 (n0 n1 n2 : Int) (s : Value) (w : World) (h0 : rightB n0 = false) : Calls Try.prog 36 #[.agg #[.int .i64 n0, .int .i64 n1, .int .i64 n2, s]] w fun e w' => e = .returned (.int .i64 1) ∧ Below w.heap.size w w' := by
  have H0 := Lib.hid h0; clear h0
  go_enter Try.func36, Try.ntmps36
  go_wp2
  refine wp_loop_rounds 4 ?_
  rw [rounds_succ]
  go_wp2_with fail
  refine (divides_any _ _).mono ?_
  rintro e w' ⟨rfl, rfl⟩
  rw [H0.out]
  go_wp2
  go_ret
  exact ⟨rfl, (Below.refl _ _).alloc (Nat.le_refl _) _⟩

set_option maxHeartbeats 1000000 in
theorem rchk_bad1 (n0 n1 n2 : Int) (s : Value) (w : World) (h0 : rightB n0 = true) (h1 : rightB n1 = false) : Calls Try.prog 36 #[.agg #[.int .i64 n0, .int .i64 n1, .int .i64 n2, s]] w fun e w' => e = .returned (.int .i64 1) ∧ Below w.heap.size w w' := by
  have H0 := Lib.hid h0; have H1 := Lib.hid h1; clear h0 h1
  go_enter Try.func36, Try.ntmps36
  go_wp2
  refine wp_loop_rounds 4 ?_
  rw [rounds_succ]
  go_wp2_with fail
  refine (divides_any _ _).mono ?_
  rintro e w' ⟨rfl, rfl⟩
  rw [H0.out]
  go_wp2
  rw [rounds_succ]
  go_wp2_with fail
  refine (divides_any _ _).mono ?_
  rintro e w' ⟨rfl, rfl⟩
  rw [H1.out]
  go_wp2
  go_ret
  exact ⟨rfl, (Below.refl _ _).alloc (Nat.le_refl _) _⟩

set_option maxHeartbeats 1000000 in
theorem rchk_bad2 (n0 n1 n2 : Int) (s : Value) (w : World) (h0 : rightB n0 = true) (h1 : rightB n1 = true) (h2 : rightB n2 = false) : Calls Try.prog 36 #[.agg #[.int .i64 n0, .int .i64 n1, .int .i64 n2, s]] w fun e w' => e = .returned (.int .i64 1) ∧ Below w.heap.size w w' := by
  have H0 := Lib.hid h0; have H1 := Lib.hid h1; have H2 := Lib.hid h2; clear h0 h1 h2
  go_enter Try.func36, Try.ntmps36
  go_wp2
  refine wp_loop_rounds 4 ?_
  rw [rounds_succ]
  go_wp2_with fail
  refine (divides_any _ _).mono ?_
  rintro e w' ⟨rfl, rfl⟩
  rw [H0.out]
  go_wp2
  rw [rounds_succ]
  go_wp2_with fail
  refine (divides_any _ _).mono ?_
  rintro e w' ⟨rfl, rfl⟩
  rw [H1.out]
  go_wp2
  rw [rounds_succ]
  go_wp2_with fail
  refine (divides_any _ _).mono ?_
  rintro e w' ⟨rfl, rfl⟩
  rw [H2.out]
  go_wp2
  go_ret
  exact ⟨rfl, (Below.refl _ _).alloc (Nat.le_refl _) _⟩

theorem rchk_bad (n0 n1 n2 : Int) (s : Value) (w : World) (h : (rightB n0 && rightB n1 && rightB n2) = false) : Calls Try.prog 36 #[.agg #[.int .i64 n0, .int .i64 n1, .int .i64 n2, s]] w fun e w' => e = .returned (.int .i64 1) ∧ Below w.heap.size w w' := by
  cases h0 : rightB n0
  · exact rchk_bad0 n0 n1 n2 s w h0
  cases h1 : rightB n1
  · exact rchk_bad1 n0 n1 n2 s w h0 h1
  cases h2 : rightB n2
  · exact rchk_bad2 n0 n1 n2 s w h0 h1 h2
  · rw [h0, h1, h2] at h; cases h

set_option maxHeartbeats 8000000 in
set_option maxRecDepth 100000 in
theorem rchk_box (n0 n1 n2 len cap m : Nat) (a : Option Addr) (V : Nat → Int) (w : World) (h0 : rightB n0 = true) (h1 : rightB n1 = true) (h2 : rightB n2 = true) (hlen : len ≤ 17592186044416) (ha : 0 < len → ∃ b off, a = some ⟨b, off, none⟩ ∧ b < w.heap.size ∧ ∀ i, i < len → w.cell? ⟨b, off + i, none⟩ = some (.int .i64 (V i))) (hm : m ≤ len) (hlo : ∀ i, i < m → -1048576 ≤ V i ∧ V i ≤ 1048576) (hbad : m < len → V m < -1048576 ∨ 1048576 < V m) :
    Calls Try.prog 36 #[.agg #[.int .i64 n0, .int .i64 n1, .int .i64 n2, .slice a len cap]] w fun e w' => e = .returned (.int .i64 (cerr (n0 * n1 * n2) len m)) ∧ Below w.heap.size w w' := by
  have r0 := right_le h0; have r1 := right_le h1; have r2 := right_le h2
  have HS := Lib.hid (fun w => sides_any n0 n1 n2 w ⟨r0.1, r0.2.2⟩ ⟨r1.1, r1.2.2⟩ ⟨r2.1, r2.2.2⟩)
  have HPL := Lib.hid (fun w => places_any n0 n1 n2 w r0.2.2 r1.2.2 r2.2.2)
  obtain ⟨q, p, ep, pb, _, _⟩ := sides_prod r0.2.2 r1.2.2 r2.2.2
  rw [ep] at HS HPL
  rw [ep]
  have H0 := Lib.hid h0; have H1 := Lib.hid h1; have H2 := Lib.hid h2
  have hA := Lib.hid ha; have HLO := Lib.hid hlo; have HBD := Lib.hid hbad
  have hli : (len : Int) ≤ 17592186044416 := by omega
  have hpi : (p : Int) ≤ 7077888 := by omega
  clear h0 h1 h2 ep ha hlo hbad hlen pb r0 r1 r2
  go_enter Try.func36, Try.ntmps36
  go_wp2
  refine wp_loop_rounds 4 ?_
  rw [rounds_succ]
  go_wp2_with fail
  refine (divides_any _ _).mono ?_
  rintro e w' ⟨rfl, rfl⟩
  rw [H0.out]
  go_wp2
  rw [rounds_succ]
  go_wp2_with fail
  refine (divides_any _ _).mono ?_
  rintro e w' ⟨rfl, rfl⟩
  rw [H1.out]
  go_wp2
  rw [rounds_succ]
  go_wp2_with fail
  refine (divides_any _ _).mono ?_
  rintro e w' ⟨rfl, rfl⟩
  rw [H2.out]
  go_wp2
  rw [rounds_succ]
  go_wp2_with fail
  refine (HS.out _).mono ?_
  rintro e ws ⟨rfl, hbs⟩
  have HBS := Lib.hid (Below.trans (show Below w.heap.size w (w.alloc (.cells #[.int .i64 n0, .int .i64 n1, .int .i64 n2, .slice a len cap] 26)) from (by repeat (first | assumption | exact Below.refl _ _ | refine below_drewN ?_ _ | refine Below.alloc ?_ (by first | (simp; done) | (simp; omega) | omega) _ | refine Below.setCell ?_ (by first | (simp; done) | (simp; omega) | omega) _))) (hbs.mono (by simp)))
  have c0 : ws.cell? ⟨w.heap.size, 0, none⟩ = some (.int .i64 n0) := (hbs.cell (p := ⟨w.heap.size, 0, none⟩) (by simp)).trans (by go_simp)
  have c1 : ws.cell? ⟨w.heap.size, 1, none⟩ = some (.int .i64 n1) := (hbs.cell (p := ⟨w.heap.size, 1, none⟩) (by simp)).trans (by go_simp)
  have c2 : ws.cell? ⟨w.heap.size, 2, none⟩ = some (.int .i64 n2) := (hbs.cell (p := ⟨w.heap.size, 2, none⟩) (by simp)).trans (by go_simp)
  have c3 : ws.cell? ⟨w.heap.size, 3, none⟩ = some (.slice a len cap) := (hbs.cell (p := ⟨w.heap.size, 3, none⟩) (by simp)).trans (by go_simp)
  have hsl : w.heap.size < ws.heap.size := by have := hbs.size; simp at this; omega
  clear hbs HS
  by_cases c : (262144 : Int) < (p : Int)
  · rw [if_pos (show 262144 < p by omega)]
    have hce : cerr p len m = 2 := by unfold cerr; rw [if_pos (by omega)]
    have HCE := Lib.hid hce; clear hce
    go_wp2
    go_quiet (fail)
    go_wp2
    go_ret
    exact ⟨by rw [HCE.out]; rfl, below_drewN HBS.out _⟩
  · rw [if_neg (show ¬ 262144 < p by omega)]
    go_wp2
    refine region_all (by kernel_rfl) (by kernel_rfl) ?_
    repeat (go_big_quiet_step ((go_at_call 57; exact held_of _ (Nat.le_refl _) (HPL.out _))))
    refine wpQuiet_nil ?_
    rintro w2 ⟨⟨w0, hb⟩, rfl⟩
    have HB2 := Lib.hid (HBS.out.trans (hb.mono HBS.out.size))
    have d3 : w2.cell? ⟨w.heap.size, 3, none⟩ = some (.slice a len cap) := (hb.cell (p := ⟨w.heap.size, 3, none⟩) hsl).trans c3
    clear hb c0 c1 c2 c3 HBS hsl HPL
    simp only [Exit.then]
    by_cases pl : p = len
    · have ht : ((len : Int) != (p : Int)) = false := by rw [pl]; simp
      have PL := Lib.hid pl; clear pl
      go_wp2
      go_loop [37] (fun i => ∃ k : Nat, k ≤ m ∧ i = .int .i64 k) (fun i => len - (RowKit.intOf i).toNat)
      case atStart => exact ⟨0, Nat.zero_le _, rfl⟩
      case round =>
        obtain ⟨k, hk, rfl⟩ := hrel
        rcases (by omega : k < m ∨ (k = m ∧ k < len) ∨ (k = m ∧ k = len)) with z | z | z
        · obtain ⟨b, off, rfl, hb, hc⟩ := hA.out (by omega)
          have hc1 := (HB2.out.cell (p := ⟨b, off + k, none⟩) hb).trans (hc k (by omega))
          obtain ⟨hl1, hl2⟩ := HLO.out k z
          have hkn : (k : Int) < (len : Int) := by omega
          obtain ⟨v, ev⟩ : ∃ v, v = V k := ⟨_, rfl⟩
          rw [← ev] at hc1 hl1 hl2
          clear ev hc
          go_wp2
          go_round
          case rel => exact ⟨_, _, _, ⟨k + 1, by omega, rfl⟩, rfl, rfl, by go_num⟩
          case measure => simp [RowKit.intOf]; omega
        · obtain ⟨e, z⟩ := z
          subst e
          obtain ⟨b, off, rfl, hb, hc⟩ := hA.out (by omega)
          have hc1 := (HB2.out.cell (p := ⟨b, off + k, none⟩) hb).trans (hc k z)
          have hl := HBD.out z
          obtain ⟨v, ev⟩ : ∃ v, v = V k := ⟨_, rfl⟩
          rw [← ev] at hc1 hl
          clear ev hc
          have hkn : (k : Int) < (len : Int) := by omega
          have hce : cerr p len k = 4 := by unfold cerr; rw [if_neg (by omega), if_neg (by have := PL.out; omega), if_pos z]
          have HCE := Lib.hid hce; clear hce
          rcases hl with hl | hl
          · go_wp2_with fail
            refine (least_any 0 4 _ _ _ (by go_simp) (by go_simp)).mono ?_
            rintro e w' ⟨rfl, rfl⟩
            rw [show least2 0 4 = 4 by decide]
            go_wp2
            go_ret
            exact ⟨by rw [HCE.out]; rfl, HB2.out.alloc HB2.out.size _⟩
          · have hl' : ¬ v < -1048576 := by omega
            go_wp2_with fail
            refine (least_any 0 4 _ _ _ (by go_simp) (by go_simp)).mono ?_
            rintro e w' ⟨rfl, rfl⟩
            rw [show least2 0 4 = 4 by decide]
            go_wp2
            go_ret
            exact ⟨by rw [HCE.out]; rfl, HB2.out.alloc HB2.out.size _⟩
        · obtain ⟨e, z⟩ := z
          subst e
          have hkn : ¬ k < len := by omega
          have hce : cerr p len k = 0 := by unfold cerr; rw [if_neg (by omega), if_neg (by have := PL.out; omega), if_neg hkn]
          have HCE := Lib.hid hce; clear hce z
          go_wp2
          go_ret
          exact ⟨by rw [HCE.out]; rfl, HB2.out⟩
    · have ht : ((len : Int) != (p : Int)) = true := by rw [bne_iff_ne]; omega
      have PL := Lib.hid pl; clear pl
      go_wp2
      go_loop [37] (fun i => ∃ k : Nat, k ≤ m ∧ i = .int .i64 k) (fun i => len - (RowKit.intOf i).toNat)
      case atStart => exact ⟨0, Nat.zero_le _, rfl⟩
      case round =>
        obtain ⟨k, hk, rfl⟩ := hrel
        rcases (by omega : k < m ∨ (k = m ∧ k < len) ∨ (k = m ∧ k = len)) with z | z | z
        · obtain ⟨b, off, rfl, hb, hc⟩ := hA.out (by omega)
          have hc1 := (HB2.out.cell (p := ⟨b, off + k, none⟩) hb).trans (hc k (by omega))
          obtain ⟨hl1, hl2⟩ := HLO.out k z
          have hkn : (k : Int) < (len : Int) := by omega
          obtain ⟨v, ev⟩ : ∃ v, v = V k := ⟨_, rfl⟩
          rw [← ev] at hc1 hl1 hl2
          clear ev hc
          go_wp2
          go_round
          case rel => exact ⟨_, _, _, ⟨k + 1, by omega, rfl⟩, rfl, rfl, by go_num⟩
          case measure => simp [RowKit.intOf]; omega
        · obtain ⟨e, z⟩ := z
          subst e
          obtain ⟨b, off, rfl, hb, hc⟩ := hA.out (by omega)
          have hc1 := (HB2.out.cell (p := ⟨b, off + k, none⟩) hb).trans (hc k z)
          have hl := HBD.out z
          obtain ⟨v, ev⟩ : ∃ v, v = V k := ⟨_, rfl⟩
          rw [← ev] at hc1 hl
          clear ev hc
          have hkn : (k : Int) < (len : Int) := by omega
          have hce : cerr p len k = 3 := by unfold cerr; rw [if_neg (by omega), if_pos (by have := PL.out; omega)]
          have HCE := Lib.hid hce; clear hce
          rcases hl with hl | hl
          · go_wp2_with fail
            refine (least_any 3 4 _ _ _ (by go_simp) (by go_simp)).mono ?_
            rintro e w' ⟨rfl, rfl⟩
            rw [show least2 3 4 = 3 by decide]
            go_wp2
            go_ret
            exact ⟨by rw [HCE.out]; rfl, HB2.out.alloc HB2.out.size _⟩
          · have hl' : ¬ v < -1048576 := by omega
            go_wp2_with fail
            refine (least_any 3 4 _ _ _ (by go_simp) (by go_simp)).mono ?_
            rintro e w' ⟨rfl, rfl⟩
            rw [show least2 3 4 = 3 by decide]
            go_wp2
            go_ret
            exact ⟨by rw [HCE.out]; rfl, HB2.out.alloc HB2.out.size _⟩
        · obtain ⟨e, z⟩ := z
          subst e
          have hkn : ¬ k < len := by omega
          have hce : cerr p len k = 3 := by unfold cerr; rw [if_neg (by omega), if_pos (by have := PL.out; omega)]
          have HCE := Lib.hid hce; clear hce z
          go_wp2
          go_ret
          exact ⟨by rw [HCE.out]; rfl, HB2.out⟩

end Go.Proofs.Ytjmhnmlmnlefaaa
