/-
  Line and its errors.
-/
import Derived.Test.YtjmhnmlmnlefaaaNttH
namespace Go.Proofs.Ytjmhnmlmnlefaaa
open Go.RowKit Go.Lib
attribute [local irreducible] World.setCell
set_option linter.unusedSimpArgs false
set_option linter.unusedVariables false


theorem list_eq_LW {l : List Value} {n : Nat} {f : Nat → F} (hl : l.length = n) (h : ∀ i, i < n → l[i]? = some (wd (f i))) : l = LW n f := by
  apply List.ext_getElem?
  intro i
  by_cases q : i < n
  · rw [h i q, LW_get n f i q]
  · rw [List.getElem?_eq_none (by omega), List.getElem?_eq_none (by rw [LW_len]; omega)]
theorem made_row {w : World} {B g n : Nat} {f : Nat → F} (h : w.rowIs g 41 n (fun i => wd (f i))) (hB : B ≤ g) (hn : n ≤ maxLen) : Made w B (.slice (some ⟨g, 0, none⟩) n n) n f := by
  obtain ⟨c, hb, hc, hf⟩ := h
  refine ⟨by rw [LW_len, Nat.mul_one], .inr ⟨g, n, c, rfl, hB, hb, Nat.le_refl _, hn, by omega, ?_⟩⟩
  rw [List.take_of_length_le (by simp; omega)]
  exact list_eq_LW (by simpa using hc) (fun i hi => by rw [← hf i hi]; simp)
theorem Made.store {w : World} {B g n cap : Nat} {f : Nat → F} (h : Made w B (.slice (some ⟨g, 0, none⟩) n cap) n f) (j : Nat) (u : F) (f' : Nat → F) (hf : ∀ i, i < n → f' i = if i = j then u else f i) : Made (w.setCell ⟨g, j, none⟩ (wd u)) B (.slice (some ⟨g, 0, none⟩) n cap) n f' := by
  have := (World.ownsRow.stored h j (wd u)).1
  have e : (LW n f).set j (wd u) = LW n f' := list_eq_LW (by simp [LW_len]) (fun i hi => by
    rw [List.getElem?_set, hf i hi]
    by_cases q : j = i
    · subst q; rw [if_pos rfl, if_pos (by rw [LW_len]; exact hi), if_pos rfl]
    · rw [if_neg q, if_neg (fun e => q e.symm), LW_get n f i hi])
  rw [e] at this
  exact this
theorem Made.congr {w : World} {B : Nat} {v : Value} {n : Nat} {f f' : Nat → F} (h : Made w B v n f) (e : ∀ i, i < n → f i = f' i) : Made w B v n f' := by
  have : LW n f = LW n f' := list_eq_LW (LW_len _ _) (fun i hi => by rw [LW_get n f i hi, e i hi])
  unfold Made at *
  rw [← this]; exact h
theorem Made.mono {w : World} {B B' : Nat} {v : Value} {n : Nat} {f : Nat → F} (h : Made w B v n f) (hB : B' ≤ B) : Made w B' v n f := by
  refine ⟨h.1, ?_⟩
  rcases h.2 with q | ⟨g, cap, cur, e, hg, r⟩
  · exact .inl q
  · exact .inr ⟨g, cap, cur, e, Nat.le_trans hB hg, r⟩
theorem Made.below {w w' : World} {B : Nat} {v : Value} {n : Nat} {f : Nat → F} (h : Made w B v n f) (hb : Below w.heap.size w w') : Made w' B v n f := by
  refine ⟨h.1, ?_⟩
  rcases h.2 with q | ⟨g, cap, cur, e, hg, r, q⟩
  · exact .inl q
  · exact .inr ⟨g, cap, cur, e, hg, by rw [hb.block g (by obtain ⟨h, _⟩ := Array.getElem?_eq_some_iff.1 r; exact h)]; exact r, q⟩
/-- A line that may be transformed. -/
theorem right_le {n : Nat} (h : rightB n = true) : 0 < n ∧ 192 % n = 0 ∧ n ≤ 192 := by
  unfold rightB at h
  rw [Bool.and_eq_true] at h
  have h1 := of_decide_eq_true h.1
  have h2 := of_decide_eq_true h.2
  have e : (192 : Int) % (n : Int) = ((192 % n : Nat) : Int) := rfl
  rw [e] at h2
  have h3 : 192 % n = 0 := by omega
  exact ⟨by omega, h3, le_192 h3⟩
set_option maxHeartbeats 1000000 in
theorem Line_arg (a : Option Addr) (n cap : Nat) (w : World) (hr : rightB n = false) : Calls Try.prog 23 #[.slice a n cap] w fun e w' => e = .returned (.tuple #[.slice none 0 0, .int .i64 1]) ∧ w = w' := by
  go_enter Try.func23, Try.ntmps23
  go_wp2_with fail
  refine (check_arg a n cap _ hr).mono ?_
  rintro e w' ⟨rfl, rfl⟩
  go_wp2
  go_ret2
  exact ⟨rfl, rfl⟩
set_option maxHeartbeats 1000000 in
theorem Line_form (b off n cap m : Nat) (X : Nat → Nat) (w : World) (hr : rightB n = true) (hm : m < n) (hc : ∀ i, i < n → w.cell? ⟨b, off + i, none⟩ = some (wn (X i))) (hlo : ∀ i, i < m → X i < 18446744069414584321) (hbad : 18446744069414584321 ≤ X m) : Calls Try.prog 23 #[.slice (some ⟨b, off, none⟩) n cap] w fun e w' => e = .returned (.tuple #[.slice none 0 0, .int .i64 3]) ∧ w = w' := by
  have HC := Lib.hid (fun w' (q : ∀ i, i < n → World.cell? w' ⟨b, off + i, none⟩ = some (wn (X i))) => check_run b off n cap m X w' hr (right_le hr).2.2 (by omega) q hlo (fun _ => hbad))
  have HW := Lib.hid hc; have HM := Lib.hid (if_pos hm : (if m < n then (3 : Int) else 0) = 3); clear hr hlo hbad hc hm
  go_enter Try.func23, Try.ntmps23
  go_wp2_with fail
  refine (HC.out _ HW.out).mono ?_
  rintro e w' ⟨rfl, rfl⟩
  rw [HM.out]
  go_wp2
  go_ret2
  exact ⟨rfl, rfl⟩
set_option maxHeartbeats 1000000 in
theorem Line_ok (b off n cap : Nat) (x : Nat → F) (w : World) (hr : rightB n = true) (hb : b < w.heap.size) (hx : Wds w b off n x) : Calls Try.prog 23 #[.slice (some ⟨b, off, none⟩) n cap] w fun e w' => (∃ g, e = .returned (.tuple #[.slice (some ⟨g, 0, none⟩) n n, .int .i64 0]) ∧ w.heap.size ≤ g ∧ w'.rowIs g 41 n (fun i => wd (dft n (rt n) x i))) ∧ Below w.heap.size w w' := by
  obtain ⟨h0, hd, hn⟩ := right_le hr
  have HC := Lib.hid (check_run b off n cap n (fun i => (x i).val) w hr hn (Nat.le_refl _) hx (fun i _ => F.lt _) (fun h => absurd h (Nat.lt_irrefl _)))
  have HM := Lib.hid (if_neg (Nat.lt_irrefl n) : (if n < n then (3 : Int) else 0) = 0)
  have HL := Lib.hid (fun w' (k : Nat) (e : w' = w.drewN k) => line_all n h0 hn b off cap x (rt n) w' (by rw [e]; exact hb) (by rw [e]; exact hx) (rt_one h0 hd) (fun q => rt_half h0 hd q)); clear hr hd hx
  go_enter Try.func23, Try.ntmps23
  go_wp2_with fail
  refine HC.out.mono ?_
  rintro e w' ⟨rfl, rfl⟩
  rw [HM.out]
  go_wp2_with fail
  refine (root_any n _ (by omega) (by omega)).mono ?_
  rintro e w' ⟨rfl, k, rfl⟩
  rw [Int.toNat_natCast]
  go_wp2_with fail
  refine (HL.out _ k rfl).mono ?_
  rintro e w' ⟨⟨g, rfl, hg, hr⟩, hbel⟩
  go_wp2
  go_ret2
  exact ⟨⟨g, rfl, hg, hr⟩, (below_drewN (Below.refl _ _) k).trans hbel⟩
/-- The inverse transform. -/
def idft (n : Nat) (x : Nat → F) (i : Nat) : F := dft n (rv n) x i * pw (nF n) (PP - 2)
theorem wd_nF {n : Nat} (h : n ≤ 192) : (Value.int .u64 (n : Int)) = wd (nF n) := by
  show _ = Value.int .u64 (((nF n).val : Nat) : Int)
  rw [nF_val n (by have : (192 : Nat) < PP := by decide
                   omega)]
set_option maxHeartbeats 2000000 in
set_option maxRecDepth 100000 in
theorem unline_any (b off n cap : Nat) (x : Nat → F) (w : World) (h0 : 0 < n) (hd : 192 % n = 0) (hb : b < w.heap.size) (hx : Wds w b off n x) : Calls Try.prog 41 #[.slice (some ⟨b, off, none⟩) n cap] w fun e w' => (∃ g, e = .returned (.slice (some ⟨g, 0, none⟩) n n) ∧ w.heap.size ≤ g ∧ w'.rowIs g 41 n (fun i => wd (idft n x i))) ∧ Below w.heap.size w w' := by
  have hn := le_192 hd
  have HV := Lib.hid (And.intro (rv_pow h0 hd) hd)
  have h1 := rt_one h0 hd
  have HL := Lib.hid (fun w' (k : Nat) (e : w' = w.drewN k) => line_all n h0 hn b off cap x (rv n) w' (by rw [e]; exact hb) (by rw [e]; exact hx) (rt_root h0 hd).symm.one (fun q => by
    have a := pw_inv (rt_inv h0 hd) (n / 2)
    rw [rt_half h0 hd q] at a
    grind)); clear hd hx h1
  have hn1 : IntKind.u64.wrap ((n : Int) - 1) = ((n - 1 : Nat) : Int) := by rw [IntKind.wrap_u64]; omega
  have hn2 : ((n : Int) - 1) = ((n - 1 : Nat) : Int) := by omega
  have HN := Lib.hid (And.intro hn1 hn2); clear hn1 hn2
  go_enter Try.func41, Try.ntmps41
  go_wp2_with fail
  refine (root_any n _ (by omega) (by omega)).mono ?_
  rintro e w' ⟨rfl, k, rfl⟩
  rw [Int.toNat_natCast]
  go_wp2_with fail
  first | rw [HN.out.1] | rw [HN.out.2]
  refine (power_any (rt n) (n - 1) _ (by omega)).mono ?_
  rintro e w' ⟨rfl, k2, rfl⟩
  rw [HV.out.1]
  go_wp2_with fail
  refine (HL.out _ (k + k2) (by simp)).mono ?_
  rintro e w1 ⟨⟨g, rfl, hg, hr⟩, hbel⟩
  go_wp2_with fail
  rw [wd_nF hn]
  refine (power_any (nF n) 18446744069414584319 _ (by decide)).mono ?_
  rintro e w' ⟨rfl, k3, rfl⟩
  obtain ⟨ov, eov⟩ : ∃ o, o = pw (nF n) 18446744069414584319 := ⟨_, rfl⟩
  rw [← eov]
  have OV := Lib.hid eov; clear eov HL HN
  have hg' : w.heap.size ≤ g := by simpa using hg
  have hb1 : Below w.heap.size w w1 := below_call (Below.refl _ _) (Nat.le_refl _) hbel
  have HR := Lib.hid hr; have HB := Lib.hid hb1; clear hr hb1 hbel hg
  go_wp2
  go_loopw [23] (fun i wr => ∃ j : Nat, j ≤ n ∧ i = .int .i64 j ∧ wr.rowIs g 41 n (fun i => wd (if i < j then dft n (rv n) x i * ov else dft n (rv n) x i)) ∧ Below w.heap.size w wr) (fun i _ => n - (RowKit.intOf i).toNat)
  case atStart => exact ⟨0, Nat.zero_le _, rfl, (rowIs_drewN HR.out _).congr (fun i _ => by rw [if_neg (by omega)]), below_drewN HB.out _⟩
  case round =>
    obtain ⟨j, hj, rfl, hrow, hbel⟩ := hrel
    have hc : j < n → wr.cell? ⟨g, j, none⟩ = some (wd (dft n (rv n) x j)) := fun h => (hrow.cell h).trans (by rw [if_neg (by omega)])
    have hf : wr.frozen? ⟨g, j, none⟩ = false := hrow.frozen j
    have HRW := Lib.hid hrow; have HBW := Lib.hid hbel; clear hrow hbel HR HB
    by_cases hjn : j < n
    · have hc := hc hjn
      go_wp2_with (go_at_call 39; refine (mul_any _ _ _).mono ?_; rintro e w' ⟨rfl, kk, rfl⟩)
      go_roundw
      case rel =>
        refine ⟨j + 1, by omega, by go_num, ((rowIs_drewN HRW.out _).set j _).congr (fun i _ => ?_), (below_drewN HBW.out _).setCell hg' _⟩
        by_cases q : i = j
        · subst q; rw [if_pos rfl, if_pos (by omega)]
        · rw [if_neg q]
          by_cases q2 : i < j
          · rw [if_pos q2, if_pos (by omega)]
          · rw [if_neg q2, if_neg (by omega)]
      case measure => simp [RowKit.intOf]; omega
    · go_wp2
      go_ret
      have e : j = n := by omega
      subst e
      exact ⟨⟨_, rfl, hg', HRW.out.congr (fun i hi => by rw [if_pos hi, OV.out]; rfl)⟩, HBW.out⟩

end Go.Proofs.Ytjmhnmlmnlefaaa
