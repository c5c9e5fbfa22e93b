/-
  Conjugates: contracts; an append that leaves another list apart.
-/
import Derived.Test.YtiloleochmdfoaaCxL
import Derived.Test.YtiloleochmdfoaaCxJ
import Derived.ArgAppend
import Derived.OwnWalk
namespace Go.Proofs.Ytiloleochmdfoaa
open Go.RowKit
attribute [local irreducible] World.setCell

set_option linter.unusedSimpArgs false
set_option linter.unusedVariables false

attribute [local go_sem] ng_def
@[go_sem] theorem run_neg_f {P : Program} (b : Nat) (w : World) : (Op.unary .neg (.float .f64 b)).run P w = .ok (.float .f64 (ng b)) w := rfl
def eqv (x y : Nat) : Bool := (FloatKind.f64.format.order x y == some Ordering.eq) || (isN x && isN y)
theorem eqv_of {x y : Nat} (h : RZ (cn x) (cn y)) : eqv x y = true := by
  unfold eqv
  cases hx : isN x with
  | true =>
    rw [cn_none hx] at h
    cases hy : isN y with
    | true => simp
    | false =>
      rw [cn_some hy] at h
      rcases h with h | ⟨h, _⟩
      · cases h
      · rcases h with h | h <;> cases h
  | false =>
    rw [cn_some hx] at h
    cases hy : isN y with
    | true =>
      rw [cn_none hy] at h
      rcases h with h | ⟨_, h⟩
      · cases h
      · rcases h with h | h <;> cases h
    | false =>
      rw [cn_some hy] at h
      rw [order_RZ h hy]; rfl
theorem ord_self (x : Nat) : (FloatKind.f64.format.order x x == some Ordering.eq) = !isN x := by
  have := order_self x
  simp only [bne] at this
  rw [← this, Bool.not_not]
def sgn (x : Nat) : Bool := decide (9223372036854775808 ≤ x)
theorem sgn_ng {x : Nat} (h : x < 18446744073709551616) : sgn (ng x) = !sgn x := by
  unfold sgn
  rcases Nat.lt_or_ge x 9223372036854775808 with q | q
  · rw [ng_low q]; simp; omega
  · obtain ⟨k, rfl⟩ : ∃ k, x = 9223372036854775808 + k := ⟨x - 9223372036854775808, by omega⟩
    rw [ng_high (by omega)]; simp; omega
theorem csum_ng (f : Nat → Nat) (n : Nat) (hf : ∀ k, k < n → f k < 18446744073709551616) : W64 (csum f n) ∧ RZ (csum (fun k => ng (f k)) n) (nO (csum f n)) := by
  induction n with
  | zero => exact ⟨fun x e => (by cases e; decide), .inr ⟨.inl rfl, zr_nO (.inl rfl)⟩⟩
  | succ n ih =>
    obtain ⟨h1, h2⟩ := ih (fun k hk => hf k (by omega))
    refine ⟨W64.fop _ _ _, ?_⟩
    show RZ (fop .add (csum (fun k => ng (f k)) n) (cn (ng (f n)))) (nO (fop .add (csum f n) (cn (f n))))
    rw [cn_ng]
    exact (h2.addl _).trans (add_ng h1 (W64.cn (hf n (by omega))))
def AbsV (a b : Nat) : Option Nat :=
  if infp (a % 9223372036854775808) || infp (b % 9223372036854775808) then some 9218868437227405312 else if isN a || isN b then none else
  if zerop (mxv (a % 9223372036854775808) (b % 9223372036854775808)) then some 0 else fop .mul (cn (mxv (a % 9223372036854775808) (b % 9223372036854775808))) (fsq (fop .add (some 4607182418800017408) (fop .mul (fop .quo (cn (mnv (a % 9223372036854775808) (b % 9223372036854775808))) (cn (mxv (a % 9223372036854775808) (b % 9223372036854775808)))) (fop .quo (cn (mnv (a % 9223372036854775808) (b % 9223372036854775808))) (cn (mxv (a % 9223372036854775808) (b % 9223372036854775808)))))))
theorem AbsV_ng (a b : Nat) : AbsV a (ng b) = AbsV a b := by unfold AbsV; rw [ng_mod, isN_ng]
theorem Abs_any (a b : Nat) (ha : a < 18446744073709551616) (hb : b < 18446744073709551616) (w : World) : Calls Try.prog 17 #[.complex .f64 a b] w fun e w' => (∃ r : Nat, e = .returned (.float .f64 r) ∧ r < 18446744073709551616 ∧ cn r = AbsV a b) ∧ Below w.heap.size w w' := by
  unfold AbsV
  cases h : (infp (a % 9223372036854775808) || infp (b % 9223372036854775808)) with
  | true => exact Abs_inf a b w ha hb h
  | false =>
    obtain ⟨h1, h2⟩ := Bool.or_eq_false_iff.1 h
    cases h3 : (isN a || isN b) with
    | true => exact Abs_nan a b w ha hb h1 h2 h3
    | false =>
      obtain ⟨h4, h5⟩ := Bool.or_eq_false_iff.1 h3
      cases h6 : zerop (mxv (a % 9223372036854775808) (b % 9223372036854775808)) with
      | true => exact Abs_zero a b w ha hb h1 h2 h4 h5 h6
      | false => exact Abs_num a b w ha hb h1 h2 h4 h5 h6
set_option maxHeartbeats 400000 in
theorem Conj_any (a b : Nat) (w : World) :
    Calls Try.prog 18 #[.complex .f64 a b] w fun e w' => e = .returned (.complex .f64 a (ng b)) ∧ w = w' := by
  go_enter Try.func18, Try.ntmps18
  go_wp2
  go_ret
  exact ⟨rfl, rfl⟩

set_option maxHeartbeats 400000 in
theorem Abs2_any (a b : Nat) (w : World) :
    Calls Try.prog 26 #[.complex .f64 a b] w fun e w' => (∃ r : Nat, e = .returned (.float .f64 r) ∧ cn r = fop .add (fop .mul (cn a) (cn a)) (fop .mul (cn b) (cn b))) ∧ Below w.heap.size w w' := by
  go_enter Try.func26, Try.ntmps26
  go_wp2
  go_ret
  refine ⟨⟨_, rfl, ?_⟩, ?_⟩
  · simp only [cn_fr]
  · repeat (first | exact Below.refl _ _ | assumption | exact Below.alloc (Below.refl _ _) (Nat.le_refl _) _ | refine Below.setCell ?_ (by first | (simp; done) | (simp; omega) | omega) _ | refine below_drewN ?_ _ | refine below_fw ?_ _ _ _ | refine below_sw ?_ _ | refine Below.alloc ?_ (by first | (simp; done) | (simp; omega) | omega) _ | refine Below.trans ?_ (Below.mono (by assumption) (by first | (simp; done) | (simp; omega) | omega)))

set_option maxHeartbeats 400000 in
theorem requal_any (x y : Nat) (w : World) :
    Calls Try.prog 60 #[.float .f64 x, .float .f64 y] w fun e w' => e = .returned (.bool (eqv x y)) ∧ w = w' := by
  go_enter Try.func60, Try.ntmps60
  cases ho : (FloatKind.f64.format.order x y == some Ordering.eq)
  all_goals cases hn : isN x
  all_goals go_wp2_with (go_at_call 61; refine (rIsNaN_any _ _).mono ?_; rintro e w' ⟨rfl, rfl⟩)
  all_goals go_ret
  all_goals refine ⟨ret_b ?_, rfl⟩
  all_goals simp [eqv, ho, hn]

set_option maxHeartbeats 400000 in
theorem rEqual_any (a b c d : Nat) (w : World) :
    Calls Try.prog 35 #[.complex .f64 a b, .complex .f64 c d] w fun e w' => e = .returned (.bool (eqv a c && eqv b d)) ∧ w = w' := by
  go_enter Try.func35, Try.ntmps35
  cases hs : eqv a c
  · go_wp2_with (go_at_call 60; refine (requal_any _ _ _).mono ?_; rintro e w' ⟨rfl, rfl⟩)
    go_ret
    refine ⟨ret_b ?_, rfl⟩
    simp [hs]
  · go_wp2_with (go_at_call 60; refine (requal_any _ _ _).mono ?_; rintro e w' ⟨rfl, rfl⟩)
    go_ret
    refine ⟨ret_b ?_, rfl⟩
    simp [hs]

set_option maxHeartbeats 400000 in
theorem signbit_any (x : Nat) (w : World) (hx : x < 18446744073709551616):
    Calls Try.prog 22 #[.float .f64 x] w fun e w' => e = .returned (.bool (sgn x)) ∧ w = w' := by
  go_enter Try.func22, Try.ntmps22
  go_wp2
  go_ret
  refine ⟨ret_b ?_, rfl⟩
  unfold sgn; first | rfl | (congr 1; apply propext; unfold wrap64; omega) | (simp; unfold wrap64; omega)

theorem ownsRow_base {w : World} {base base' : Nat} {e : TypeId} {size : Nat} {v : Value} {n : Nat} {xs : List Value} (h : w.ownsRow base e size v n xs) (hb : base' ≤ base) : w.ownsRow base' e size v n xs := by
  refine ⟨h.1, ?_⟩
  rcases h.2 with hn | ⟨g, cap, cur, hv, h1, r⟩
  · exact .inl hn
  · exact .inr ⟨g, cap, cur, hv, Nat.le_trans hb h1, r⟩
theorem grown_more {w w' : World} (h : w.grownBy w' none) (row : Option Nat) : w.grownBy w' row := ⟨h.os, h.tape, h.output, h.size, fun k hk _ => h.block k hk (by simp)⟩
theorem wpList_append_apart {P : Program} {w : World} {ops : Array Oper} {rest : List Oper} {o : Oper} {a : Act} {Q : Exit → Act → World → Prop} (hgd : o.guard = none) (s x : Operand) (t : TypeId)
    (ho : o.op = .call { callee := .builtin .append, args := #[s, x], argTypes := #[t, t] })
    (base : Nat) (e : TypeId) (i : TypeInfo) (z : Value) (bytes : Nat) (ht : P.underlying t = some (.slice e)) (hi : P.info? e = some i) (hz : i.zero = some z)
    (hsize : i.size = 1) (hby : i.bytes = bytes) (hzs : z.cells.size = 1)
    (v : Value) (n : Nat) (xs : List Value) (hs : a.eval s = v) (hown : w.ownsRow base e 1 v n xs)
    (ad : Addr) (c : Nat) (u : Value) (hx : a.eval x = .slice (some ad) 1 c) (hnews : w.cell? ad = some u) (h1 : u.oneCell' = true)
    (h63 : n + 1 ≤ maxLen) (hbytes : (n + 1) * bytes ≤ 140737488355328) (hbase : base ≤ w.heap.size)
    (h : ∀ v' w', w'.ownsRow base e 1 v' (n + 1) (xs ++ [u]) → w.grownBy w' v.ownBlock → (v'.ownBlock = v.ownBlock ∨ ∀ k, v'.ownBlock = some k → w.heap.size ≤ k) → wpList P ops Q rest (a.put o.dst v') w') : wpList P ops Q (o :: rest) a w := by
  have hnew : ∀ (j : Nat) (q : Value), [u][j]? = some q → w.cell? (ad.add j) = some q := by
    intro j q hj
    match j, hj with
    | 0, hj => simp at hj; subst hj; simpa [Addr.add] using hnews
  have hone : ∀ q ∈ [u], q.oneCell' = true := by intro q hq; simp at hq; subst hq; exact h1
  rcases hown.2 with ⟨rfl, rfl⟩ | ⟨g, cap, cur, rfl, hg, hgg, hc, _⟩
  · have hxs : xs = [] := List.length_eq_zero_iff.1 hown.1
    subst hxs
    refine wpList_append_grows w hgd s x t ho e i z 1 bytes ht hi hz hsize hby hzs (by decide) none 0 0 [] hs (fun _ => ⟨rfl, rfl⟩) rfl (fun b hb => by cases hb) ad 1 c [u] hx rfl hnew hone (by omega) h63 hbytes (fun v' w' r1 r2 => ?_)
    exact h v' w' (ownsRow_base r1 hbase) (grown_more r2 _) (.inr (fun k hk => owned_lt r1 k hk))
  · by_cases hfit : n + 1 ≤ cap
    · exact wpList_append_fits w hgd s x t ho base e i 1 ht hi hsize g n cap xs hs hown ad 1 c [u] hx rfl hnew hone hfit (fun w' r1 r2 => h _ w' r1 r2 (.inl rfl))
    · refine wpList_append_grows w hgd s x t ho e i z 1 bytes ht hi hz hsize hby hzs (by decide) (some ⟨g, 0, none⟩) n cap xs hs (fun q => by cases q) hown.1 (fun b hb => by cases hb; exact hown.cells rfl) ad 1 c [u] hx rfl hnew hone (by omega) h63 hbytes (fun v' w' r1 r2 => ?_)
      exact h v' w' (ownsRow_base r1 hbase) (grown_more r2 _) (.inr (fun k hk => owned_lt r1 k hk))
end Go.Proofs.Ytiloleochmdfoaa
