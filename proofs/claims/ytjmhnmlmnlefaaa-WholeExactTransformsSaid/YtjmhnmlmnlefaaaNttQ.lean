/-
  The error of a grid.
-/
import Derived.Test.YtjmhnmlmnlefaaaNttO
import Derived.Test.YtjmhnmlmnlefaaaNttS
namespace Go.Proofs.Ytjmhnmlmnlefaaa
open Go.RowKit Go.Lib
attribute [local irreducible] World.setCell
set_option linter.unusedSimpArgs false
set_option linter.unusedVariables false


theorem some_of_isSome {α : Type} {o : Option α} (h : o.isSome = true) : ∃ i, o = some i := Option.isSome_iff_exists.1 h
@[go_sem] theorem eqVec (d : Nat) (a0 a1 a2 b0 b1 b2 : Int) (w : World) :
    (Op.equalIn (d + 2) 23 (.agg #[.int .i64 a0, .int .i64 a1, .int .i64 a2]) (.agg #[.int .i64 b0, .int .i64 b1, .int .i64 b2])).run Try.prog w = .ok (a0 == b0 && (a1 == b1 && a2 == b2)) w := by
  obtain ⟨i, hi⟩ := some_of_isSome (o := Try.prog.info? 3) (by kernel_rfl)
  have und : Try.prog.underlying 23 = some (.array 3 3) := by kernel_rfl
  have c3 : Try.prog.cellsOf 3 = 1 := by kernel_rfl
  rw [run_equalIn_array w (d + 1) _ _ und hi, c3]
  have p0 : ∀ (x y z : Value) (w : World), (part 3 #[x, y, z] 0).run Try.prog w = .ok x w := fun _ _ _ _ => by kernel_rfl
  have p1 : ∀ (x y z : Value) (w : World), (part 3 #[x, y, z] 1).run Try.prog w = .ok y w := fun _ _ _ _ => by kernel_rfl
  have p2 : ∀ (x y z : Value) (w : World), (part 3 #[x, y, z] 2).run Try.prog w = .ok z w := fun _ _ _ _ => by kernel_rfl
  simp [List.range_succ, Op.eqItems, p0, p1, p2, run_equalIn_int (h := Try.underlying3)]
  by_cases h0 : a0 = b0 <;> by_cases h1 : a1 = b1 <;> by_cases h2 : a2 = b2 <;> simp [h0, h1, h2]
theorem ix3_0 (a b c : Value) (w : World) : (Instr.index 23 (.agg #[a, b, c]) (.int .i64 0)).run Try.prog w = .ok a w := by kernel_rfl
theorem ix3_1 (a b c : Value) (w : World) : (Instr.index 23 (.agg #[a, b, c]) (.int .i64 1)).run Try.prog w = .ok b w := by kernel_rfl
theorem ix3_2 (a b c : Value) (w : World) : (Instr.index 23 (.agg #[a, b, c]) (.int .i64 2)).run Try.prog w = .ok c w := by kernel_rfl
attribute [local go_sem] ix3_0 ix3_1 ix3_2
def cv (n0 n1 n2 : Int) (s : Value) : Value := .agg #[.int .i64 n0, .int .i64 n1, .int .i64 n2, s]

set_option maxHeartbeats 1000000 in
theorem counts_bad0 (n0 n1 n2 : Int) (s : Value) (w : World) (h0 : rightB n0 = false) : Calls Try.prog 37 #[.agg #[.int .i64 n0, .int .i64 n1, .int .i64 n2, s]] w fun e w' => e = .returned (.int .i64 1) ∧ Below w.heap.size w w' := by
  have H0 := Lib.hid h0; clear h0
  go_enter Try.func37, Try.ntmps37
  go_wp2
  refine wp_loop_rounds 4 ?_
  rw [rounds_succ]
  go_wp2_with fail
  refine (right_any _ _).mono ?_
  rintro e w' ⟨rfl, rfl⟩
  rw [H0.out]
  go_wp2
  go_ret
  exact ⟨rfl, (Below.refl _ _).alloc (Nat.le_refl _) _⟩

set_option maxHeartbeats 1000000 in
theorem counts_bad1 (n0 n1 n2 : Int) (s : Value) (w : World) (h0 : rightB n0 = true) (h1 : rightB n1 = false) : Calls Try.prog 37 #[.agg #[.int .i64 n0, .int .i64 n1, .int .i64 n2, s]] w fun e w' => e = .returned (.int .i64 1) ∧ Below w.heap.size w w' := by
  have H0 := Lib.hid h0; have H1 := Lib.hid h1; clear h0 h1
  go_enter Try.func37, Try.ntmps37
  go_wp2
  refine wp_loop_rounds 4 ?_
  rw [rounds_succ]
  go_wp2_with fail
  refine (right_any _ _).mono ?_
  rintro e w' ⟨rfl, rfl⟩
  rw [H0.out]
  go_wp2
  rw [rounds_succ]
  go_wp2_with fail
  refine (right_any _ _).mono ?_
  rintro e w' ⟨rfl, rfl⟩
  rw [H1.out]
  go_wp2
  go_ret
  exact ⟨rfl, (Below.refl _ _).alloc (Nat.le_refl _) _⟩

set_option maxHeartbeats 1000000 in
theorem counts_bad2 (n0 n1 n2 : Int) (s : Value) (w : World) (h0 : rightB n0 = true) (h1 : rightB n1 = true) (h2 : rightB n2 = false) : Calls Try.prog 37 #[.agg #[.int .i64 n0, .int .i64 n1, .int .i64 n2, s]] w fun e w' => e = .returned (.int .i64 1) ∧ Below w.heap.size w w' := by
  have H0 := Lib.hid h0; have H1 := Lib.hid h1; have H2 := Lib.hid h2; clear h0 h1 h2
  go_enter Try.func37, Try.ntmps37
  go_wp2
  refine wp_loop_rounds 4 ?_
  rw [rounds_succ]
  go_wp2_with fail
  refine (right_any _ _).mono ?_
  rintro e w' ⟨rfl, rfl⟩
  rw [H0.out]
  go_wp2
  rw [rounds_succ]
  go_wp2_with fail
  refine (right_any _ _).mono ?_
  rintro e w' ⟨rfl, rfl⟩
  rw [H1.out]
  go_wp2
  rw [rounds_succ]
  go_wp2_with fail
  refine (right_any _ _).mono ?_
  rintro e w' ⟨rfl, rfl⟩
  rw [H2.out]
  go_wp2
  go_ret
  exact ⟨rfl, (Below.refl _ _).alloc (Nat.le_refl _) _⟩

theorem counts_bad (n0 n1 n2 : Int) (s : Value) (w : World) (h : (rightB n0 && rightB n1 && rightB n2) = false) : Calls Try.prog 37 #[.agg #[.int .i64 n0, .int .i64 n1, .int .i64 n2, s]] w fun e w' => e = .returned (.int .i64 1) ∧ Below w.heap.size w w' := by
  cases h0 : rightB n0
  · exact counts_bad0 n0 n1 n2 s w h0
  cases h1 : rightB n1
  · exact counts_bad1 n0 n1 n2 s w h0 h1
  cases h2 : rightB n2
  · exact counts_bad2 n0 n1 n2 s w h0 h1 h2
  · rw [h0, h1, h2] at h; cases h
/-- The error of a grid whose sides are lengths: p places, len numbers, the m-th the first that is too great. -/
def cerr (p len m : Nat) : Int := if 262144 < p then 2 else if p ≠ len then 3 else if m < len then 4 else 0
set_option maxHeartbeats 4000000 in
set_option maxRecDepth 100000 in
theorem counts_box (n0 n1 n2 len cap m : Nat) (a : Option Addr) (V : Nat → Int) (w : World) (h0 : rightB n0 = true) (h1 : rightB n1 = true) (h2 : rightB n2 = true) (hlen : len ≤ 17592186044416) (ha : 0 < len → ∃ b off, a = some ⟨b, off, none⟩ ∧ b < w.heap.size ∧ ∀ i, i < len → w.cell? ⟨b, off + i, none⟩ = some (.int .i64 (V i))) (hm : m ≤ len) (hlo : ∀ i, i < m → -1048576 ≤ V i ∧ V i ≤ 1048576) (hbad : m < len → V m < -1048576 ∨ 1048576 < V m) :
    Calls Try.prog 37 #[.agg #[.int .i64 n0, .int .i64 n1, .int .i64 n2, .slice a len cap]] w fun e w' => e = .returned (.int .i64 (cerr (n0 * n1 * n2) len m)) ∧ Below w.heap.size w w' := by
  have r0 := (right_le h0).2.2; have r1 := (right_le h1).2.2; have r2 := (right_le h2).2.2
  obtain ⟨q, eq⟩ : ∃ q, q = n0 * n1 := ⟨_, rfl⟩
  obtain ⟨p, ep⟩ : ∃ p, p = q * n2 := ⟨_, rfl⟩
  have qb : q ≤ 36864 := by rw [eq]; exact Nat.mul_le_mul r0 r1
  have pb : p ≤ 7077888 := by rw [ep]; exact Nat.mul_le_mul qb r2
  have pp : 0 < p := by rw [ep, eq]; exact Nat.mul_pos (Nat.mul_pos (right_le h0).1 (right_le h1).1) (right_le h2).1
  have hq := congrArg (Value.int IntKind.i64) (show wrap64 ((n0 : Int) * (n1 : Int)) = (q : Int) by rw [eq, Int.natCast_mul]; exact wrap_id _ (by rw [← Int.natCast_mul, ← eq]; omega) (by rw [← Int.natCast_mul, ← eq]; omega))
  have hp := congrArg (Value.int IntKind.i64) (show wrap64 ((q : Int) * (n2 : Int)) = (p : Int) by rw [ep, Int.natCast_mul]; exact wrap_id _ (by rw [← Int.natCast_mul, ← ep]; omega) (by rw [← Int.natCast_mul, ← ep]; omega))
  have HP := Lib.hid (show n0 * n1 * n2 = p by rw [ep, eq])
  have H0 := Lib.hid h0; have H1 := Lib.hid h1; have H2 := Lib.hid h2
  have hA := Lib.hid ha; have HLO := Lib.hid hlo; have HBD := Lib.hid hbad
  have hli : (len : Int) ≤ 17592186044416 := by omega
  have hpi : (p : Int) ≤ 7077888 := by omega
  clear h0 h1 h2 eq ep ha hlo hbad hlen qb pb
  rw [HP.out]
  go_enter Try.func37, Try.ntmps37
  go_wp2
  refine wp_loop_rounds 4 ?_
  rw [rounds_succ]
  go_wp2_with fail
  refine (right_any _ _).mono ?_
  rintro e w' ⟨rfl, rfl⟩
  rw [H0.out]
  go_wp2
  rw [rounds_succ]
  go_wp2_with fail
  refine (right_any _ _).mono ?_
  rintro e w' ⟨rfl, rfl⟩
  rw [H1.out]
  go_wp2
  rw [rounds_succ]
  go_wp2_with fail
  refine (right_any _ _).mono ?_
  rintro e w' ⟨rfl, rfl⟩
  rw [H2.out]
  go_wp2
  rw [rounds_succ]
  by_cases c1 : (262144 : Int) < (p : Int)
  · go_wp2
    go_ret
    exact ⟨by unfold cerr; rw [if_pos (by omega)]; rfl, (Below.refl _ _).alloc (Nat.le_refl _) _⟩
  by_cases c2 : (p : Int) = (len : Int)
  · have c2' : (((p : Int) == (len : Int)) = true) := by rw [beq_iff_eq]; exact c2
    have C2 := Lib.hid c2; clear c2
    obtain ⟨b, off, rfl, hb, hc⟩ := hA.out (by have := C2.out; omega)
    have HC := Lib.hid hc; clear hc hA
    go_wp2
    go_loop [38] (fun i => ∃ k : Nat, k ≤ m ∧ i = .int .i64 k) (fun i => len - (RowKit.intOf i).toNat)
    case atStart => exact ⟨0, Nat.zero_le _, rfl⟩
    case round =>
      obtain ⟨k, hk, rfl⟩ := hrel
      rcases (by omega : k < m ∨ (k = m ∧ k < len) ∨ (k = m ∧ k = len)) with z | z | z
      · have hc1 := (World.cell?_alloc_lt w (.cells #[.int .i64 n0, .int .i64 n1, .int .i64 n2, .slice (some ⟨b, off, none⟩) len cap] 26) ⟨b, off + k, none⟩ hb).trans (HC.out k (by omega))
        obtain ⟨hl1, hl2⟩ := HLO.out k z
        have hkn : (k : Int) < (len : Int) := by omega
        obtain ⟨v, ev⟩ : ∃ v, v = V k := ⟨_, rfl⟩
        rw [← ev] at hc1 hl1 hl2
        clear ev
        go_wp2
        go_round
        case rel => exact ⟨k + 1, by omega, by go_num⟩
        case measure => simp [RowKit.intOf]; omega
      · obtain ⟨e, z⟩ := z
        subst e
        have hc1 := (World.cell?_alloc_lt w (.cells #[.int .i64 n0, .int .i64 n1, .int .i64 n2, .slice (some ⟨b, off, none⟩) len cap] 26) ⟨b, off + k, none⟩ hb).trans (HC.out k z)
        have hl := HBD.out z
        obtain ⟨v, ev⟩ : ∃ v, v = V k := ⟨_, rfl⟩
        rw [← ev] at hc1 hl
        clear ev
        have hce : cerr p len k = 4 := by
          have := C2.out
          unfold cerr; rw [if_neg (by omega), if_neg (by omega), if_pos z]
        have HCE := Lib.hid hce; clear hce
        rcases hl with hl | hl
        · go_wp2
          go_ret
          exact ⟨by rw [HCE.out]; rfl, (Below.refl _ _).alloc (Nat.le_refl _) _⟩
        · have hl' : ¬ v < -1048576 := by omega
          go_wp2
          go_ret
          exact ⟨by rw [HCE.out]; rfl, (Below.refl _ _).alloc (Nat.le_refl _) _⟩
      · obtain ⟨e, z⟩ := z
        subst e
        have hkn : ¬ k < len := by omega
        have hce : cerr p len k = 0 := by
          have := C2.out
          unfold cerr; rw [if_neg (by omega), if_neg (by omega), if_neg hkn]
        have HCE := Lib.hid hce; clear hce z
        go_wp2
        go_ret
        exact ⟨by rw [HCE.out]; rfl, (Below.refl _ _).alloc (Nat.le_refl _) _⟩
  · have c2' : (((p : Int) == (len : Int)) = false) := by rw [beq_eq_false_iff_ne]; exact c2
    have hce : cerr p len m = 3 := by unfold cerr; rw [if_neg (by omega), if_pos (by omega)]
    have HCE := Lib.hid hce
    clear hce c2
    go_wp2
    go_ret
    exact ⟨by rw [HCE.out]; rfl, (Below.refl _ _).alloc (Nat.le_refl _) _⟩

end Go.Proofs.Ytjmhnmlmnlefaaa
