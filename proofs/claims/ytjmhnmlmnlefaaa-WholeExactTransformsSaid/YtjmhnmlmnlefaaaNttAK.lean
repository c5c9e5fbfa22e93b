/-
  Rows that a world holds; sums; the law NttLaws where a fold is refused.
-/
import Derived.Test.YtjmhnmlmnlefaaaNttAJ
namespace Go.Proofs.Ytjmhnmlmnlefaaa
open Go.RowKit Go.Lib
attribute [local irreducible] World.setCell
set_option linter.unusedSimpArgs false
set_option linter.unusedVariables false


/-- Rows that a world holds. -/
structure Row where
  g : Nat
  t : TypeId
  n : Nat
  f : Nat → Value
instance : Inhabited Row := ⟨⟨0, 0, 0, fun _ => .bool false⟩⟩
def nth : List Row → Nat → Row
  | [], _ => default
  | r :: _, 0 => r
  | _ :: l, i + 1 => nth l i
theorem nth_mem : ∀ (l : List Row) (i : Nat), i < l.length → nth l i ∈ l
  | [], i, h => absurd h (Nat.not_lt_zero _)
  | r :: l, 0, _ => List.mem_cons_self
  | r :: l, i + 1, h => List.mem_cons_of_mem _ (nth_mem l i (by simpa using h))
structure Has (l : List Row) (X : World) : Prop where
  all : ∀ r, r ∈ l → X.rowIs r.g r.t r.n r.f
theorem Has.nil (X : World) : Has [] X := ⟨fun r h => absurd h List.not_mem_nil⟩
theorem Has.cons {X : World} {l : List Row} {g : Nat} {t : TypeId} {n : Nat} {f : Nat → Value} (h : X.rowIs g t n f) (hl : Has l X) : Has (⟨g, t, n, f⟩ :: l) X :=
  ⟨fun r hr => by
    rcases List.mem_cons.1 hr with rfl | hr
    · exact h
    · exact hl.all r hr⟩
theorem Has.step {l : List Row} {X Y : World} (h : Has l X) (hb : Below X.heap.size X Y) : Has l Y := ⟨fun r hr => (h.all r hr).of_block (hb.block _ (h.all r hr).lt)⟩
theorem Has.one {l : List Row} {X : World} (h : Has l X) (i : Nat) (hi : i < l.length) : X.rowIs (nth l i).g (nth l i).t (nth l i).n (nth l i).f := h.all _ (nth_mem l i hi)
theorem Has.lt {l : List Row} {X : World} (h : Has l X) : ∀ r, r ∈ l → r.g < X.heap.size := fun r hr => (h.all r hr).lt
theorem Has.tail {l : List Row} {r : Row} {X : World} (h : Has (r :: l) X) : Has l X := ⟨fun r hr => h.all r (List.mem_cons_of_mem _ hr)⟩
/-- A store into the first row. -/
theorem Has.put {X : World} {l : List Row} {g : Nat} {t : TypeId} {n : Nat} {f f' : Nat → Value} (h : Has (⟨g, t, n, f⟩ :: l) X) (k : Nat) (v : Value) (hl : ∀ r, r ∈ l → r.g ≠ g) (e : ∀ i, i < n → f' i = if i = k then v else f i) : Has (⟨g, t, n, f'⟩ :: l) (X.setCell ⟨g, k, none⟩ v) :=
  .cons (((h.one 0 (by simp)).set k v).congr fun i hi => (e i hi).symm) ⟨fun r hr => (h.tail.all r hr).setOther (hl r hr) v⟩
theorem Has.congr {X : World} {l : List Row} {g : Nat} {t : TypeId} {n : Nat} {f f' : Nat → Value} (h : Has (⟨g, t, n, f⟩ :: l) X) (e : ∀ i, i < n → f i = f' i) : Has (⟨g, t, n, f'⟩ :: l) X := .cons ((h.one 0 (by simp)).congr e) h.tail
/-- Two ways that meet: what is shown of both is shown once. -/
structure Hold (T : Prop) : Prop where
  out : T
theorem meet {T G : Prop} (a : Hold T → G) (b : T) : G := a ⟨b⟩
set_option maxHeartbeats 2000000 in
theorem Mod_any (k : Int) (n : Nat) (w : World) (hn : 0 < n) (hn2 : n ≤ 17592186044416) : Calls Try.prog 19 #[.int .i64 k, .int .i64 n] w fun e w' => e = .returned (.int .i64 ((k % n).toNat : Nat)) ∧ w = w' := by
  have z : ¬ n = 0 := by omega
  have n1 : (1 : Int) ≤ n := by omega
  have n2 : (n : Int) ≤ 17592186044416 := by omega
  have t1 := Int.lt_tmod_of_pos k (show (0 : Int) < n by omega)
  have t2 := Int.tmod_lt_of_pos k (show (0 : Int) < n by omega)
  have e : (k.tmod n + n) % (n : Int) = (((k % n).toNat : Nat) : Int) := by
    have h0 := Int.emod_nonneg k (show (n : Int) ≠ 0 by omega)
    rw [Int.toNat_of_nonneg h0, Int.add_emod_right]
    have hh := Int.mul_tdiv_add_tmod k n
    have h2 := Int.add_mul_emod_self_left (k.tmod n) n (k.tdiv n)
    rw [← h2, Int.add_comm, hh]
  have HE := Lib.hid e
  obtain ⟨q, eq⟩ : ∃ q, q = k.tmod n := ⟨_, rfl⟩
  rw [← eq] at t1 t2 HE
  have eq' := eq.symm
  clear e eq hn hn2
  go_enter Try.func19, Try.ntmps19
  go_wp2
  go_ret
  exact ⟨by show Ending.returned (.int .i64 ((q + n) % n)) = _; rw [HE.out], rfl⟩
set_option maxHeartbeats 2000000 in
theorem sum_any (n0 n1 n2 : Int) (s : Value) (n : Nat) (V : Nat → Int) (w : World) (hR : Rd w s n (fun i => .int .i64 (V i))) (hn : n ≤ 600) (hV : ∀ i, i < n → -1125899906842624 ≤ V i ∧ V i ≤ 1125899906842624) :
    Calls Try.prog 18 #[.agg #[.int .i64 n0, .int .i64 n1, .int .i64 n2, s]] w fun e w' => e = .returned (.int .i64 (sz n V)) ∧ Below w.heap.size w w' := by
  obtain ⟨a, ca, rfl, hA⟩ := hR
  have hni : (n : Int) ≤ 600 := by omega
  have HA := Lib.hid hA; have HV := Lib.hid hV; clear hA hV hn
  have HB := fun k (hk : k ≤ n) => sz_bound (n := k) (f := V) (K := 1125899906842624) (fun i hi => HV.out i (by omega))
  have HBD := Lib.hid HB; clear HB
  have HH := Lib.hid (show Below w.heap.size w (w.alloc (.cells #[.int .i64 n0, .int .i64 n1, .int .i64 n2, .slice a n ca] 26)) from (by repeat (first | assumption | exact Below.refl _ _ | refine below_drewN ?_ _ | refine Below.drew ?_ | refine Below.alloc ?_ (by first | (simp; done) | (simp; omega) | omega) _ | refine Below.setCell ?_ (by first | (simp; done) | (simp; omega) | omega) _)))
  go_enter Try.func18, Try.ntmps18
  go_wp2
  go_loopw [3, 9] (fun s i wr => ∃ k : Nat, k ≤ n ∧ i = .int .i64 k ∧ s = .int .i64 (sz k V) ∧ Below w.heap.size w wr ∧ w.heap.size < wr.heap.size) (fun _ i _ => n - (RowKit.intOf i).toNat)
  case atStart => exact ⟨0, Nat.zero_le _, rfl, rfl, HH.out, by simp⟩
  case round =>
    obtain ⟨k, hk, rfl, rfl, hb, hs⟩ := hrel
    by_cases hkn : k < n
    · obtain ⟨b, off, rfl, hl, hc⟩ := HA.out (by omega)
      have c1 : wr.cell? ⟨b, off + k, none⟩ = some (.int .i64 (V k)) := (hb.cell (p := ⟨b, off + k, none⟩) hl).trans (hc k hkn)
      have hkl : (k : Int) < (n : Int) := by omega
      have b1 := HBD.out k hk
      have b2 := HV.out k hkn
      have HX := Lib.hid (show sz k V + V k = sz (k + 1) V from rfl)
      obtain ⟨x, ex⟩ : ∃ x, x = sz k V := ⟨_, rfl⟩
      obtain ⟨y, ey⟩ : ∃ x, x = V k := ⟨_, rfl⟩
      rw [← ex, ← ey] at HX
      rw [← ex] at b1
      rw [← ey] at c1 b2
      rw [← ex]
      have QB := Lib.hid hb
      have x1 : -1125899906842624000 ≤ x ∧ x ≤ 1125899906842624000 := by omega
      obtain ⟨x1, x2⟩ := x1
      obtain ⟨y1, y2⟩ := b2
      clear ex ey hb hc hl b1
      go_wp2
      go_roundw
      case rel => exact ⟨k + 1, by omega, by go_num, by rw [← HX.out], QB.out, hs⟩
      case measure => simp [RowKit.intOf]; omega
    · have e : k = n := by omega
      subst e
      have QB := Lib.hid hb
      clear hb
      go_wp2
      go_ret
      exact ⟨rfl, QB.out⟩
theorem least2_comm {a b : Int} (ha : 0 ≤ a) (hb : 0 ≤ b) : least2 a b = least2 b a := by unfold least2; split <;> split <;> omega
theorem fcode_comm {n0 n1 n2 m0 m1 m2 a b : Int} (ha : 0 ≤ a) (hb : 0 ≤ b) : fcode m0 m1 m2 n0 n1 n2 b a = fcode n0 n1 n2 m0 m1 m2 a b := by
  unfold fcode
  rw [least2_comm hb ha]
  by_cases z : least2 a b = 0
  · rw [if_pos z, if_pos z]
    by_cases q : n0 = m0 ∧ n1 = m1 ∧ n2 = m2
    · rw [if_pos q, if_pos ⟨q.1.symm, q.2.1.symm, q.2.2.symm⟩]
    · rw [if_neg q, if_neg (fun r => q ⟨r.1.symm, r.2.1.symm, r.2.2.symm⟩)]
  · rw [if_neg z, if_neg z]
def Refuses (A B : Value) (f : Int) (w : World) : Prop :=
  Calls Try.prog 15 #[A, B] w fun e w' => e = .returned (.tuple #[.agg #[.int .i64 0, .int .i64 0, .int .i64 0, .slice none 0 0], .int .i64 f]) ∧ Below w.heap.size w w'
set_option maxHeartbeats 4000000 in
set_option maxRecDepth 100000 in
theorem laws_bad (n0 n1 n2 m0 m1 m2 k f : Int) (sa sb : Value) (w : World) (hf : f ≠ 0) (hA : ∀ w', Below w.heap.size w w' → Refuses (gv n0 n1 n2 sa) (gv m0 m1 m2 sb) f w') (hB : ∀ w', Below w.heap.size w w' → Refuses (gv m0 m1 m2 sb) (gv n0 n1 n2 sa) f w') :
    Calls Try.prog 4 #[.agg #[.int .i64 n0, .int .i64 n1, .int .i64 n2, sa], .agg #[.int .i64 m0, .int .i64 m1, .int .i64 m2, sb], .int .i64 k] w fun e w' => e = .returned (.bool true) ∧ Below w.heap.size w w' := by
  have HF := Lib.hid hA; have HD := Lib.hid hB
  have hz : (f != 0) = true := by rw [bne_iff_ne]; exact hf
  clear hA hB hf
  go_enter Try.func4, Try.ntmps4
  go_wp2_with fail
  refine (awake_any _).mono ?_
  rintro e W1 ⟨rfl, hb1⟩
  have F0 : FA w n0 n1 n2 m0 m1 m2 sa sb ((w.alloc (.cells #[.int .i64 n0, .int .i64 n1, .int .i64 n2, sa] 26)).alloc (.cells #[.int .i64 m0, .int .i64 m1, .int .i64 m2, sb] 26)) := ⟨((Below.refl _ _).alloc (Nat.le_refl _) _).alloc (by simp) _, by simp, by go_simp, by go_simp, by go_simp, by go_simp, by go_simp, by go_simp, by go_simp, by go_simp⟩
  have F1 := Lib.hid (F0.step (B := w.heap.size + 1 + 1) (hb1.mono (by simp)) (by omega))
  clear F0 hb1
  obtain ⟨hB1, hs1, a0, a1, a2, a3, b0, b1, b2, b3⟩ := F1.out
  clear hB1
  go_wp2_with fail
  refine (HF.out _ F1.out.below).mono ?_
  rintro e W4 ⟨rfl, hb2⟩
  have F4 := Lib.hid (F1.out.step hb2 hs1)
  clear hb2 F1 hs1 a0 a1 a2 a3 b0 b1 b2 b3 HF
  obtain ⟨hB1, hs1, a0, a1, a2, a3, b0, b1, b2, b3⟩ := F4.out
  clear hB1
  have l0 : w.heap.size < W4.heap.size := by omega
  go_wp2_with fail
  refine (HD.out _ (F4.out.below.trans (Below.mono (B := W4.heap.size) ((by repeat (first | assumption | exact Below.refl _ _ | refine below_drewN ?_ _ | refine Below.drew ?_ | refine Below.alloc ?_ (by first | (simp; done) | (simp; omega) | omega) _ | refine Below.setCell ?_ (by first | (simp; done) | (simp; omega) | omega) _))) (by omega)))).mono ?_
  rintro e W5 ⟨rfl, hb2⟩
  have hb45 : Below W4.heap.size W4 W5 := Below.trans (show Below W4.heap.size W4 (W4.alloc (.cells #[.int .i64 0, .int .i64 0, .int .i64 0, .slice none 0 0] 26)) from (by repeat (first | assumption | exact Below.refl _ _ | refine below_drewN ?_ _ | refine Below.drew ?_ | refine Below.alloc ?_ (by first | (simp; done) | (simp; omega) | omega) _ | refine Below.setCell ?_ (by first | (simp; done) | (simp; omega) | omega) _))) (hb2.mono (by simp))
  have F5 := Lib.hid (F4.out.below.trans (hb45.mono (by omega)))
  have hl5 : w.heap.size ≤ W5.heap.size := F5.out.size
  have hl45 : W4.heap.size < W5.heap.size := by have := hb2.size; simp at this; omega
  have q0 : W5.cell? ⟨W4.heap.size, 0, none⟩ = some (.int .i64 0) := (hb2.cell (p := ⟨W4.heap.size, 0, none⟩) (by simp)).trans (by go_simp)
  have q1 : W5.cell? ⟨W4.heap.size, 1, none⟩ = some (.int .i64 0) := (hb2.cell (p := ⟨W4.heap.size, 1, none⟩) (by simp)).trans (by go_simp)
  have q2 : W5.cell? ⟨W4.heap.size, 2, none⟩ = some (.int .i64 0) := (hb2.cell (p := ⟨W4.heap.size, 2, none⟩) (by simp)).trans (by go_simp)
  have q3 : W5.cell? ⟨W4.heap.size, 3, none⟩ = some (.slice none 0 0) := (hb2.cell (p := ⟨W4.heap.size, 3, none⟩) (by simp)).trans (by go_simp)
  clear hb2 hb45 F4 HD hs1 a0 a1 a2 a3 b0 b1 b2 b3
  go_wp2_with fail
  refine (same_counts (n := 0) (V := fun _ => 0) (rd_nil _ _) (rd_nil _ _) (by omega)).mono ?_
  rintro e W6 ⟨rfl, hb2⟩
  have q3' : W6.cell? ⟨W4.heap.size, 3, none⟩ = some (.slice none 0 0) := (hb2.cell (p := ⟨W4.heap.size, 3, none⟩) (by simp; omega)).trans (by go_simp)
  have HBE := Lib.hid (F5.out.trans ((Below.trans (show Below W5.heap.size W5 (W5.alloc (.cells #[.int .i64 0, .int .i64 0, .int .i64 0, .slice none 0 0] 26)) from (by repeat (first | assumption | exact Below.refl _ _ | refine below_drewN ?_ _ | refine Below.drew ?_ | refine Below.alloc ?_ (by first | (simp; done) | (simp; omega) | omega) _ | refine Below.setCell ?_ (by first | (simp; done) | (simp; omega) | omega) _))) (hb2.mono (by simp))).mono hl5))
  clear hb2
  go_wp2
  go_ret
  exact ⟨rfl, HBE.out⟩

end Go.Proofs.Ytjmhnmlmnlefaaa
