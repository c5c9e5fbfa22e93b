/-
  The law NttShifts.
-/
import Derived.Test.YtjmhnmlmnlefaaaNttX
import Derived.ArgAppend
import Derived.OwnWalk
namespace Go.Proofs.Ytjmhnmlmnlefaaa
open Go.RowKit Go.Lib
attribute [local irreducible] World.setCell
set_option linter.unusedSimpArgs false
set_option linter.unusedVariables false


theorem owned_lt {w : World} {base : Nat} {e : TypeId} {size : Nat} {v : Value} {n : Nat} {xs : List Value} (h : w.ownsRow base e size v n xs) : ∀ k, v.ownBlock = some k → base ≤ k := fun k hk => (h.lt k hk).1
theorem ownsRow_base {w : World} {base base' : Nat} {e : TypeId} {size : Nat} {v : Value} {n : Nat} {xs : List Value} (h : w.ownsRow base e size v n xs) (hb : base' ≤ base) : w.ownsRow base' e size v n xs := by
  refine ⟨h.1, ?_⟩
  rcases h.2 with hn | ⟨g, cap, cur, hv, h1, r⟩
  · exact .inl hn
  · exact .inr ⟨g, cap, cur, hv, Nat.le_trans hb h1, r⟩
theorem grown_more {w w' : World} (h : w.grownBy w' none) (row : Option Nat) : w.grownBy w' row := ⟨h.os, h.tape, h.output, h.size, fun k hk _ => h.block k hk (by simp)⟩
theorem wpList_append_apart {P : Program} {w : World} {ops : Array Oper} {rest : List Oper} {o : Oper} {a : Act} {Q : Exit → Act → World → Prop} (hgd : o.guard = none) (s x : Operand) (t : TypeId)
    (ho : o.op = .call { callee := .builtin .append, args := #[s, x], argTypes := #[t, t] })
    (base : Nat) (e : TypeId) (i : TypeInfo) (z : Value) (bytes : Nat) (ht : P.underlying t = some (.slice e)) (hi : P.info? e = some i) (hz : i.zero = some z)
    (hsize : i.size = 1) (hby : i.bytes = bytes) (hzs : z.cells.size = 1)
    (v : Value) (n : Nat) (xs : List Value) (hs : a.eval s = v) (hown : w.ownsRow base e 1 v n xs)
    (ad : Addr) (c : Nat) (u : Value) (hx : a.eval x = .slice (some ad) 1 c) (hnews : w.cell? ad = some u) (h1 : u.oneCell' = true)
    (h63 : n + 1 ≤ maxLen) (hbytes : (n + 1) * bytes ≤ 140737488355328) (hbase : base ≤ w.heap.size)
    (h : ∀ v' w', w'.ownsRow base e 1 v' (n + 1) (xs ++ [u]) → w.grownBy w' v.ownBlock → (v'.ownBlock = v.ownBlock ∨ ∀ k, v'.ownBlock = some k → w.heap.size ≤ k) → wpList P ops Q rest (a.put o.dst v') w') : wpList P ops Q (o :: rest) a w := by
  have hnew : ∀ (j : Nat) (q : Value), [u][j]? = some q → w.cell? (ad.add j) = some q := by
    intro j q hj
    match j, hj with
    | 0, hj => simp at hj; subst hj; simpa [Addr.add] using hnews
  have hone : ∀ q ∈ [u], q.oneCell' = true := by intro q hq; simp at hq; subst hq; exact h1
  rcases hown.2 with ⟨rfl, rfl⟩ | ⟨g, cap, cur, rfl, hg, hgg, hc, _⟩
  · have hxs : xs = [] := List.length_eq_zero_iff.1 hown.1
    subst hxs
    refine wpList_append_grows w hgd s x t ho e i z 1 bytes ht hi hz hsize hby hzs (by decide) none 0 0 [] hs (fun _ => ⟨rfl, rfl⟩) rfl (fun b hb => by cases hb) ad 1 c [u] hx rfl hnew hone (by omega) h63 hbytes (fun v' w' r1 r2 => ?_)
    exact h v' w' (ownsRow_base r1 hbase) (grown_more r2 _) (.inr (fun k hk => owned_lt r1 k hk))
  · by_cases hfit : n + 1 ≤ cap
    · exact wpList_append_fits w hgd s x t ho base e i 1 ht hi hsize g n cap xs hs hown ad 1 c [u] hx rfl hnew hone hfit (fun w' r1 r2 => h _ w' r1 r2 (.inl rfl))
    · refine wpList_append_grows w hgd s x t ho e i z 1 bytes ht hi hz hsize hby hzs (by decide) (some ⟨g, 0, none⟩) n cap xs hs (fun q => by cases q) hown.1 (fun b hb => by cases hb; exact hown.cells rfl) ad 1 c [u] hx rfl hnew hone (by omega) h63 hbytes (fun v' w' r1 r2 => ?_)
      exact h v' w' (ownsRow_base r1 hbase) (grown_more r2 _) (.inr (fun k hk => owned_lt r1 k hk))
theorem dft_turned {n : Nat} {w : F} (hn : 0 < n) (h : pw w n = 1) (x : Nat → F) (j : Nat) : dft n w (fun i => x ((i + (n - 1)) % n)) j = dft n w x j * pw w j := by
  have hp : ∀ a, pw w (j * (a % n)) = pw w (j * a) := fun a => by
    have e : pw (pw w j) n = 1 := by rw [← pw_mul, Nat.mul_comm, pw_mul, h, pw_ones]
    rw [pw_mul, pw_mul, pw_mod e]
  have e3 := sm_roundm hn (n - 1) (fun b => x b * pw w (j * (b + 1)))
  have e5 : sm n (fun b => x b * pw w (j * (b + 1))) = dft n w x j * pw w j := by
    unfold dft
    rw [← sm_mulr]; exact sm_congr fun b _ => by rw [Nat.mul_add, Nat.mul_one, pw_add]; grind
  rw [← e5, ← e3]
  refine sm_congr fun k hk => ?_
  have e4 : pw w (j * ((k + (n - 1)) % n + 1)) = pw w (j * k) := by
    rw [← hp ((k + (n - 1)) % n + 1), Nat.mod_add_mod, show k + (n - 1) + 1 = k + n by omega, Nat.add_mod_right, hp]
  rw [e4]
theorem dft_times (n : Nat) (w c : F) (x : Nat → F) (j : Nat) : dft n w (fun i => c * x i) j = c * dft n w x j := by
  unfold dft
  rw [← sm_mul]
  exact sm_congr fun k _ => by grind
set_option maxHeartbeats 2000000 in
theorem shifts_bad (v : Value) (c : Int) (by0 : Int) (w : World) (hc : c = 1 ∨ c = 3) (H : ∀ W, Below w.heap.size w W → BadL v c W) : Calls Try.prog 9 #[v, .int .u64 by0] w fun e w' => e = .returned (.bool true) ∧ Below w.heap.size w w' := by
  have HC := Lib.hid H; clear H
  go_enter Try.func9, Try.ntmps9
  go_wp2_with fail
  refine (awake_any _).mono ?_
  rintro e w1 ⟨rfl, hb1⟩
  have HB := Lib.hid hb1; clear hb1
  go_wp2_with fail
  refine (HC.out _ HB.out).line.mono ?_
  rintro e w' ⟨rfl, rfl⟩
  rcases hc with rfl | rfl
  all_goals go_wp2
  all_goals go_ret
  all_goals exact ⟨rfl, HB.out⟩
theorem quiet_at2 {P : Program} {f : FuncId} {args : Array Value} {W0 W : World} {a : Nat} {v : Value} (h : Calls P f args W fun e w' => e = .returned v ∧ W = w') (hW : ∃ m, W = W0.drewN (a + m)) :
    Calls P f args W fun e w' => e = .returned v ∧ ∃ m, w' = W0.drewN (a + m) :=
  h.mono fun _ _ ⟨he, hw⟩ => ⟨he, hw ▸ hW⟩
theorem apart_of {v1 v2 : Value} (h : ∀ k, v1.ownBlock = some k → v2.ownBlock ≠ some k) : v2.ownBlock = none ∨ v2.ownBlock ≠ v1.ownBlock := by
  cases e : v2.ownBlock with
  | none => exact .inl rfl
  | some q => exact .inr fun q' => h q q'.symm e
theorem apart_swap {v1 v2 : Value} (h : ∀ k, v1.ownBlock = some k → v2.ownBlock ≠ some k) : ∀ k, v2.ownBlock = some k → v1.ownBlock ≠ some k := fun k h2 h1 => h k h1 h2
theorem apart_next {v1 v2 v1' : Value} {N : Nat} (h : ∀ k, v1.ownBlock = some k → v2.ownBlock ≠ some k) (hb : v1'.ownBlock = v1.ownBlock ∨ ∀ k, v1'.ownBlock = some k → N ≤ k) (hl : ∀ k, v2.ownBlock = some k → k < N) : ∀ k, v1'.ownBlock = some k → v2.ownBlock ≠ some k := by
  intro k hk h2
  rcases hb with e | e
  · exact h k (e ▸ hk) h2
  · have := e k hk; have := hl k h2; omega
set_option maxHeartbeats 8000000 in
set_option maxRecDepth 100000 in
theorem shifts_good (b off cap n : Nat) (x : Nat → F) (by0 : Int) (w : World) (hr : rightB n = true) (hl : b < w.heap.size) (hx : Wds w b off n x) (hby : 0 ≤ by0) : Calls Try.prog 9 #[.slice (some ⟨b, off, none⟩) n cap, .int .u64 by0] w fun e w' => e = .returned (.bool true) ∧ Below w.heap.size w w' := by
  obtain ⟨i0, hi, hz0, hz1, hz2⟩ := info_parts info41
  have hn := (right_le hr).2.2
  have h0 := (right_le hr).1
  have HN := Lib.hid (right_le hr)
  have HN1 := Lib.hid hr
  have HR := Lib.hid (And.intro hr hx); clear hr hx
  have hn0 : ¬ (n : Int) = 0 := by omega
  obtain ⟨bv, ebv⟩ : ∃ bv : F, ((bv.val : Nat) : Int) = by0 % 18446744069414584321 := ⟨iF by0, by rw [iF_val]; omega⟩
  have HBV := Lib.hid ebv; clear ebv
  go_enter Try.func9, Try.ntmps9
  go_wp2_with fail
  refine (awake_any _).mono ?_
  rintro e w1 ⟨rfl, hb1⟩
  have HB := Lib.hid hb1; clear hb1
  go_wp2_with fail
  refine (Line_ok b off n cap x _ HR.out.1 (Nat.lt_of_lt_of_le hl HB.out.size) (HR.out.2.below hl HB.out)).mono ?_
  rintro e w2 ⟨⟨ga, rfl, hga, hra⟩, hb2⟩
  have HB2 := Lib.hid (HB.out.trans (hb2.mono HB.out.size))
  have RA := Lib.hid hra
  have hgal : w.heap.size ≤ ga := Nat.le_trans HB.out.size hga
  clear hra hb2 HB hga
  go_wp2_with fail
  refine (Root_ok n _ HR.out.1).mono ?_
  rintro e w3 ⟨rfl, k, hw⟩
  have HB3 := Lib.hid (drew_below HB2.out hw)
  have RA := Lib.hid (show w3.rowIs ga 41 n (fun i => wd (dft n (rt n) x i)) by rw [hw]; exact RA.out)
  have hgl : ga < w3.heap.size := RA.out.lt
  clear hw HB2
  obtain ⟨r, er⟩ : ∃ r, r = rt n := ⟨_, rfl⟩
  rw [← er] at RA
  rw [← er]
  have ER := Lib.hid er; clear er
  go_wp2
  rw [← HBV.out]
  go_loopw [40, 8, 9] (fun i v1 v2 wr => ∃ j : Nat, j ≤ n ∧ i = .int .i64 j ∧ wr.ownsRow w3.heap.size 41 1 v1 j (LW j (fun i => x ((i + (n - 1)) % n))) ∧ wr.ownsRow w3.heap.size 41 1 v2 j (LW j (fun i => bv * x i)) ∧ (∀ k, v1.ownBlock = some k → v2.ownBlock ≠ some k) ∧ Below w3.heap.size w3 wr) (fun i _ _ _ => n - (RowKit.intOf i).toNat)
  case atStart => exact ⟨0, Nat.zero_le _, rfl, World.ownsRow_nil _ _ _ _, World.ownsRow_nil _ _ _ _, fun k hk => (by cases hk), Below.refl _ _⟩
  case round =>
    obtain ⟨j, hj, rfl, hO1, hO2, hap, hbel⟩ := hrel
    have HO1 := Lib.hid hO1; have HO2 := Lib.hid hO2; have HAP := Lib.hid hap; have HBL := Lib.hid hbel
    have hwl := hbel.size
    clear hO1 hO2 hap hbel
    by_cases hjn : j < n
    · obtain ⟨sj, esj⟩ : ∃ s, s = (j + (n - 1)) % n := ⟨_, rfl⟩
      have hsj : sj < n := by rw [esj]; exact Nat.mod_lt _ h0
      have hidx : ((j : Int) + (n : Int) - 1) % (n : Int) = (sj : Int) := by
        rw [esj, show (j : Int) + (n : Int) - 1 = ((j + (n - 1) : Nat) : Int) by omega]; rfl
      have hbl3 : b < w3.heap.size := Nat.lt_of_lt_of_le hl HB3.out.size
      have hbr : b < wr.heap.size := Nat.lt_of_lt_of_le hbl3 hwl
      have hXr := HR.out.2.below hl (HB3.out.trans (HBL.out.mono HB3.out.size))
      have c1 : wr.cell? ⟨b, off + sj, none⟩ = some (wd (x sj)) := hXr sj hsj
      have HXJ := Lib.hid (hXr j hjn)
      have HSJ := Lib.hid esj
      clear esj hXr
      go_wp2_with (at_builtin; refine wpList_append_apart rfl _ _ 40 rfl w3.heap.size 41 i0 (.int .u64 0) 8 Try.underlying40 hi hz0 hz1 hz2 rfl _ _ _ rfl (HO1.out.alloc _) ⟨wr.heap.size, 0, none⟩ 1 (wd (x sj)) rfl ?d1 rfl ?d3 ?d4 ?d5 ?_)
      case d1 => first | rfl | go_simp
      case d3 => unfold maxLen; omega
      case d4 => omega
      case d5 => first | omega | (simp; omega)
      intro v1' w4 hown' hgrow hbk
      have P1 := Lib.hid (show w4.ownsRow w3.heap.size 41 1 v1' (j + 1) (LW (j + 1) (fun i => x ((i + (n - 1)) % n))) by rw [LW_succ, ← HSJ.out]; exact hown')
      have P2 := Lib.hid ((HO2.out.alloc (.cells #[wd (x sj)] 41)).kept hgrow (apart_of HAP.out))
      have PA := Lib.hid (apart_next HAP.out hbk (fun k hk => Nat.lt_succ_of_lt (HO2.out.lt k hk).2))
      have PB := Lib.hid ((HBL.out.alloc hwl _).grown hgrow (by simp; omega) (fun k hk => (HO1.out.lt k hk).1))
      have hw4 := PB.out.size
      have c2 : w4.cell? ⟨b, off + j, none⟩ = some (wd (x j)) := (PB.out.cell (p := ⟨b, off + j, none⟩) hbl3).trans ((HBL.out.cell (p := ⟨b, off + j, none⟩) hbl3).symm.trans HXJ.out)
      clear hown' hgrow hbk HO1 HO2 HAP HBL c1
      go_wp2_with (first | (go_at_call 24; refine (rmul_any _ _ _).mono ?_; rintro e w' ⟨rfl, rfl⟩) | (at_builtin; refine wpList_append_apart rfl _ _ 40 rfl w3.heap.size 41 i0 (.int .u64 0) 8 Try.underlying40 hi hz0 hz1 hz2 rfl _ _ _ rfl (P2.out.alloc _) ⟨w4.heap.size, 0, none⟩ 1 (wd (bv * x j)) rfl ?d1 rfl ?d3 ?d4 ?d5 ?_))
      case d1 => first | rfl | go_simp
      case d3 => unfold maxLen; omega
      case d4 => omega
      case d5 => first | omega | (simp; omega)
      intro v2' w5 hown' hgrow hbk
      have Q2 := Lib.hid (show w5.ownsRow w3.heap.size 41 1 v2' (j + 1) (LW (j + 1) (fun i => bv * x i)) by rw [LW_succ]; exact hown')
      have Q1 := Lib.hid ((P1.out.alloc (.cells #[wd (bv * x j)] 41)).kept hgrow (apart_of (apart_swap PA.out)))
      have QA := Lib.hid (apart_swap (apart_next (apart_swap PA.out) hbk (fun k hk => Nat.lt_succ_of_lt (P1.out.lt k hk).2)))
      have QB := Lib.hid ((PB.out.alloc hw4 _).grown hgrow (by simp; omega) (fun k hk => (P2.out.lt k hk).1))
      clear hown' hgrow hbk P1 P2 PA PB c2
      go_wp2
      go_roundw
      case rel => exact ⟨j + 1, by omega, by go_num, Q1.out, Q2.out, QA.out, QB.out⟩
      case measure => simp [RowKit.intOf]; omega
    · have hjn' : j = n := by omega
      have T1 := Lib.hid (show Made wr w3.heap.size u8 n (fun i => x ((i + (n - 1)) % n)) by have := HO1.out; rw [hjn'] at this; exact this)
      have T2 := Lib.hid (show Made wr w3.heap.size u9 n (fun i => bv * x i) by have := HO2.out; rw [hjn'] at this; exact this)
      have TA := Lib.hid (show wr.rowIs ga 41 n (fun i => wd (dft n r x i)) from rowIs_below RA.out HBL.out hgl)
      have TB := Lib.hid (HB3.out.trans (HBL.out.mono HB3.out.size))
      clear HO1 HO2 HAP HBL hjn' RA HB3 HR
      go_wp2_with fail
      refine (good_line (by exact HN1.out) (rd_made T1.out)).line.mono ?_
      rintro e w4 ⟨⟨vb, rfl, m1⟩, hb4⟩
      have TB4 := Lib.hid (TB.out.trans (hb4.mono TB.out.size))
      have TA4 := Lib.hid (TA.out.of_block (hb4.block ga TA.out.lt))
      have T24 := Lib.hid (T2.out.below hb4)
      have M1 := Lib.hid m1; clear m1 hb4 TA TB T1 T2
      go_wp2_with fail
      refine (good_line (by exact HN1.out) (rd_made T24.out)).line.mono ?_
      rintro e w5 ⟨⟨vc, rfl, m2⟩, hb5⟩
      have TB5 := Lib.hid (TB4.out.trans (hb5.mono TB4.out.size))
      have TA5 := Lib.hid (TA4.out.of_block (hb5.block ga TA4.out.lt))
      have M15 := Lib.hid (M1.out.below hb5)
      obtain ⟨g1, k1, rfl, _, hg1l, hw1⟩ := M15.out.slice h0
      obtain ⟨g2, k2, rfl, _, hg2l, hw2⟩ := m2.slice h0
      have HW1 := Lib.hid hw1; have HW2 := Lib.hid hw2
      clear m2 hb5 TA4 TB4 T24 M1 M15 hw1 hw2
      go_wp2
      go_loopw [99, 14] (fun i p wr => ∃ j q : Nat, j ≤ n ∧ i = .int .i64 j ∧ p = wd (pw r j) ∧ wr = w5.drewN q) (fun i _ _ => n - (RowKit.intOf i).toNat)
      case atStart => exact ⟨0, 0, Nat.zero_le _, rfl, rfl, rfl⟩
      case round =>
        obtain ⟨j, q, hj, rfl, rfl, rfl⟩ := hrel
        by_cases hjn : j < n
        · obtain ⟨aj, eaj⟩ : ∃ a, a = dft n r x j := ⟨_, rfl⟩
          obtain ⟨pj, epj⟩ : ∃ p, p = pw r j := ⟨_, rfl⟩
          have ca : w5.cell? ⟨ga, j, none⟩ = some (wd aj) := (TA5.out.cell hjn).trans (by rw [eaj])
          have cb : w5.cell? ⟨g1, j, none⟩ = some (wd (aj * pj)) := by
            have := HW1.out j hjn
            rw [Nat.zero_add, ← ER.out, dft_turned h0 (by rw [ER.out]; exact rt_one h0 HN.out.2.1), ← eaj, ← epj] at this
            exact this
          have cc : w5.cell? ⟨g2, j, none⟩ = some (wd (bv * aj)) := by
            have := HW2.out j hjn
            rw [Nat.zero_add, ← ER.out, dft_times, ← eaj] at this
            exact this
          have hjl : (j : Int) < (n : Int) := by omega
          have EPJ := Lib.hid epj
          rw [← epj]
          clear eaj epj
          go_wp2
          go_quiet ((go_at_call 24; first | exact quiet_at (rmul_any _ _ _) ⟨_, rfl⟩ | exact quiet_at2 (rmul_any _ _ _) ⟨_, rfl⟩))
          go_wp2_with (go_at_call 24; refine (rmul_any _ _ _).mono ?_; rintro e w' ⟨rfl, rfl⟩)
          go_roundw
          case rel => exact ⟨j + 1, _, by omega, by go_num, by rw [EPJ.out]; rfl, rfl⟩
          case measure => simp [RowKit.intOf]; omega
        · go_wp2
          go_ret
          exact ⟨rfl, below_drewN TB5.out _⟩
theorem shifts_any {v : Value} {n : Nat} {X : Nat → Nat} {by0 : Int} {w : World} (h : Rd w v n (fun i => wn (X i))) (hby : 0 ≤ by0) : Calls Try.prog 9 #[v, .int .u64 by0] w fun e w' => e = .returned (.bool true) ∧ Below w.heap.size w w' := by
  rcases line_cases h with ⟨c, hc, H⟩ | ⟨hr, x, hx⟩
  · exact shifts_bad v c by0 w hc H
  · obtain ⟨a, cap, rfl, hx⟩ := hx
    obtain ⟨b, off, rfl, hl, hc⟩ := hx (right_le hr).1
    exact shifts_good b off cap n x by0 w hr hl hc hby

end Go.Proofs.Ytjmhnmlmnlefaaa
