/-
  The transform of a line of even length.
-/
import Derived.Test.YtjmhnmlmnlefaaaNttE
import Derived.Deep.RegionHeld3
namespace Go.Proofs.Ytjmhnmlmnlefaaa
open Go.RowKit Go.Lib
attribute [local irreducible] World.setCell
set_option linter.unusedSimpArgs false
set_option linter.unusedVariables false


/-- Of which place the half list's place p is. -/
def src (h p : Nat) : Nat := if p < h then 2 * p else 2 * (p - h) + 1
def halfTo (h : Nat) (x : Nat → F) (i p : Nat) : Value := if src h p < i then wd (x (src h p)) else .int .u64 0
theorem half_step {w : World} {g n h i p : Nat} {x : Nat → F} (hr : w.rowIs g 41 n (halfTo h x i)) (hn : n = 2 * h) (hp : p < n) (hs : src h p = i) : (w.setCell ⟨g, p, none⟩ (wd (x i))).rowIs g 41 n (halfTo h x (i + 1)) :=
  (hr.set p _).congr fun q hq => by
    unfold halfTo
    by_cases e : q = p
    · subst e; rw [if_pos rfl, if_pos (by omega), hs]
    · rw [if_neg e]
      have hne : src h q ≠ i := by
        intro c; apply e; rw [← hs] at c; revert c; unfold src; split <;> split <;> omega
      by_cases c : src h q < i
      · rw [if_pos c, if_pos (by omega)]
      · rw [if_neg c, if_neg (by omega)]
/-- The transform's places that are reckoned so far: the first j of each half. -/
def yTo (h j : Nat) (f : Nat → F) (p : Nat) : Value := if p < j ∨ (h ≤ p ∧ p < h + j) then wd (f p) else .int .u64 0
theorem y_step {w : World} {g n h j : Nat} {f : Nat → F} (hr : w.rowIs g 41 n (yTo h j f)) (hj : j < h) (u v : Value) (hu : u = wd (f j)) (hv : v = wd (f (j + h))) :
    ((w.setCell ⟨g, j, none⟩ u).setCell ⟨g, j + h, none⟩ v).rowIs g 41 n (yTo h (j + 1) f) :=
  ((hr.set j u).set (j + h) v).congr fun q _ => by
    unfold yTo
    by_cases e : q = j + h
    · subst e; rw [if_pos rfl, if_pos (by omega), hv]
    · rw [if_neg e]
      by_cases e2 : q = j
      · subst e2; rw [if_pos rfl, if_pos (by omega), hu]
      · rw [if_neg e2]
        by_cases c : q < j ∨ (h ≤ q ∧ q < h + j)
        · rw [if_pos c, if_pos (by omega)]
        · rw [if_neg c, if_neg (by omega)]
theorem y_full {w : World} {g n h : Nat} {f : Nat → F} (hr : w.rowIs g 41 n (yTo h h f)) (hn : n = 2 * h) : w.rowIs g 41 n (fun i => wd (f i)) := hr.congr fun i hi => by unfold yTo; rw [if_pos (by omega)]
theorem rowIs_below {w w' : World} {B b n : Nat} {t : TypeId} {f : Nat → Value} (h : w.rowIs b t n f) (hb : Below B w w') (hB : b < B) : w'.rowIs b t n f := h.of_block (hb.block b hB)
theorem sl_lo (g n h : Nat) (hh : h ≤ n) (h0 : 0 < n) (w : World) : (Instr.slice 40 (.slice (some ⟨g, 0, none⟩) n n) none (some (.int .i64 (h : Int))) none).run Try.prog w = .ok (.slice (some ⟨g, 0, none⟩) h n) w := by
  have hn0 : ¬ n = 0 := by omega
  have hhn : (h : Int) ≤ (n : Int) := by omega
  go_simp
theorem sl_hi (g n h : Nat) (hh : h < n) (w : World) : (Instr.slice 40 (.slice (some ⟨g, 0, none⟩) n n) (some (.int .i64 (h : Int))) none none).run Try.prog w = .ok (.slice (some ⟨g, h, none⟩) (n - h) (n - h)) w := by
  have hn0 : ¬ n = h := by omega
  have hhn : (h : Int) ≤ (n : Int) := by omega
  go_simp
theorem row_call {w w1 : World} {i b n : Nat} {t : TypeId} {f : Nat → Value} (h : w.rowIs b t n f) (hb : Below (w.drewN i).heap.size (w.drewN i) w1) : w1.rowIs b t n f := h.of_block (hb.block b h.lt)
theorem below_call {B i : Nat} {W w w1 : World} (h : Below B W w) (hB : B ≤ w.heap.size) (hb : Below (w.drewN i).heap.size (w.drewN i) w1) : Below B W w1 := (below_drewN h i).trans (hb.mono hB)
theorem region_headq {P : Program} {id : Nat} {Q : Exit → Act → World → Prop} {a : Act} {W : World} {l : List Oper} (n : Nat) (hm : P.follows .mixedOrders = true) (hB : Region.lexTailB .any l.toArray n = true)
    (h : wpQuiet P l.toArray (fun w' => ∃ k, w' = W.drewN k) (fun a' => ∀ w', (∃ k, w' = W.drewN k) → wpList P l.toArray Q (l.drop n) a' w') (l.take n) a) : (Code.region id l.toArray true).wp P Q a W :=
  wp_region_quiet_tail (C := fun w' => ∃ k, w' = W.drewN k) n hm hB ⟨1, rfl⟩ h
/-- The contract of line. -/
def LineC (n : Nat) : Prop := ∀ (b off cap : Nat) (x : Nat → F) (r : F) (w : World), b < w.heap.size → Wds w b off n x → pw r n = 1 → (n % 2 = 0 → pw r (n / 2) = -1) →
    Calls Try.prog 45 #[.slice (some ⟨b, off, none⟩) n cap, wd r] w fun e w' => (∃ g, e = .returned (.slice (some ⟨g, 0, none⟩) n n) ∧ w.heap.size ≤ g ∧ w'.rowIs g 41 n (fun j => wd (dft n r x j))) ∧ Below w.heap.size w w'
set_option maxHeartbeats 2000000 in
theorem line_even (n h b off cap : Nat) (x : Nat → F) (r : F) (w : World) (hn : n ≤ 192) (h0 : 0 < h) (h2 : n = 2 * h) (hb : b < w.heap.size) (hx : Wds w b off n x) (hI : LineC h) (hr : pw r h = -1) (hr2 : h % 2 = 0 → pw (r * r) (h / 2) = -1) :
    Calls Try.prog 45 #[.slice (some ⟨b, off, none⟩) n cap, wd r] w fun e w' => (∃ g, e = .returned (.slice (some ⟨g, 0, none⟩) n n) ∧ w.heap.size ≤ g ∧ w'.rowIs g 41 n (fun j => wd (dft n r x j))) ∧ Below w.heap.size w w' := by
  have hmk := mk41 n (by omega)
  have ht : ((n : Int) % 2 == 1) = false := by rw [beq_eq_false_iff_ne]; omega
  have hq : ((n : Int) / 2) = h := by omega
  have hm0 := w.rowIs_made (.int .u64 0) n 41
  have hm1 := (w.alloc (.cells (madeCells #[.int .u64 0] n) 41)).rowIs_made (.int .u64 0) n 41
  have hm2 := hm0.alloc (.cells (madeCells #[.int .u64 0] n) 41)
  have HM := Lib.hid (And.intro hm1 hm2); clear hm0 hm1 hm2
  have HX := Lib.hid hx; have HR := Lib.hid (And.intro hr hr2); have HI := Lib.hid hI; have HN := Lib.hid h2; clear hx hr hr2 hI h2
  go_enter Try.func45, Try.ntmps45
  go_wp2
  go_loopw [62] (fun i wr => ∃ j : Nat, j ≤ n ∧ i = .int .i64 j ∧ wr.rowIs w.heap.size 41 n (fun _ => .int .u64 0) ∧ wr.rowIs (w.heap.size + 1) 41 n (halfTo h x j) ∧ Below w.heap.size w wr) (fun i _ => n - (RowKit.intOf i).toNat)
  case atStart =>
    refine ⟨0, Nat.zero_le _, rfl, HM.out.2, ?_, ((Below.refl _ _).alloc (Nat.le_refl _) _).alloc (by simp) _⟩
    have := HM.out.1
    simp only [World.size_alloc] at this
    exact this.congr fun i _ => by unfold halfTo; rw [if_neg (by omega)]
  case round =>
    obtain ⟨j, hj, rfl, hy, hrow, hbel⟩ := hrel
    clear hmk ht
    have hB := hrow.lt
    have hY := Lib.hid hy
    have hrow' := Lib.hid hrow
    have hbel' := Lib.hid hbel
    have hX' := Lib.hid (HX.out.below hb hbel)
    have hc : j < n → wr.cell? ⟨b, off + j, none⟩ = some (wd (x j)) := fun h => hX'.out j h
    have hcr : ∀ p, p < n → wr.cell? ⟨w.heap.size + 1, p, none⟩ = some (halfTo h x j p) := fun p h => hrow.cell h
    have hfr : ∀ p, wr.frozen? ⟨w.heap.size + 1, p, none⟩ = false := fun p => hrow.frozen p
    clear hrow hbel hy
    by_cases hjn : j < n
    · obtain ⟨m, em⟩ : ∃ m, m = j / 2 := ⟨_, rfl⟩
      have he : ((j : Int) / 2) = m := by omega
      have hmh : m < h := by have := HN.out; omega
      have EM := Lib.hid em; clear em
      rcases Nat.mod_two_eq_zero_or_one j with hp | hp
      · have hp' : (j : Int) % 2 = 0 := by omega
        have HP := Lib.hid hp; clear hp
        have hc1 := hcr m (by have := HN.out; omega)
        clear hcr
        go_wp2
        go_roundw
        case rel =>
          have e := HN.out; have em := EM.out; have hp := HP.out
          exact ⟨j + 1, by omega, by go_num, hY.out.setOther (by simp) _, half_step hrow'.out HN.out (by omega) (by unfold src; rw [if_pos hmh]; omega), hbel'.out.setCell (by simp) _⟩
        case measure => simp [RowKit.intOf]; omega
      · have hp' : (j : Int) % 2 = 1 := by omega
        have HP := Lib.hid hp; clear hp
        have hc1 := hcr (h + m) (by have := HN.out; omega)
        clear hcr
        go_wp2
        go_roundw
        case rel =>
          have e := HN.out; have em := EM.out; have hp := HP.out
          exact ⟨j + 1, by omega, by go_num, hY.out.setOther (by simp) _, half_step hrow'.out HN.out (by omega) (by unfold src; rw [if_neg (by omega)]; omega), hbel'.out.setCell (by simp) _⟩
        case measure => simp [RowKit.intOf]; omega
    · have hjn' : j = n := by omega
      have hs1 := sl_lo (w.heap.size + 1) n h (by have := HN.out; omega) (by have := HN.out; omega)
      have hs2 := sl_hi (w.heap.size + 1) n h (by have := HN.out; omega)
      have hs3 : n - h = h := by have := HN.out; omega
      rw [hs3] at hs2
      have hwr : IntKind.i64.wrap (h : Int) = h := by rw [IntKind.wrap_i64]; omega
      clear hs3 hc
      have HJ := Lib.hid hjn'; clear hjn'
      go_wp2
      have hI' : ∀ (off : Nat) (y : Nat → F) (W : World) (cap : Nat), (w.heap.size + 1 < W.heap.size) → Wds W (w.heap.size + 1) off h y → Calls Try.prog 45 #[.slice (some ⟨w.heap.size + 1, off, none⟩) h cap, wd (r * r)] W fun e w' => (∃ g, e = .returned (.slice (some ⟨g, 0, none⟩) h h) ∧ W.heap.size ≤ g ∧ w'.rowIs g 41 h (fun j => wd (dft h (r * r) y j))) ∧ Below W.heap.size W w' := fun off y W cap hl hw =>
        HI.out _ off cap y (r * r) W hl hw (by rw [show r * r = pw r 2 by rw [pw_succ, pw_one], ← pw_mul, Nat.mul_comm, pw_mul, HR.out.1, pw_succ, pw_one]; grind) HR.out.2
      have HI' := Lib.hid hI'; clear hI'
      have hw0 : Wds wr (w.heap.size + 1) 0 h (fun i => x (2 * i)) := fun i hi => (hcr (0 + i) (by have := HN.out; omega)).trans (by
        have e : src h (0 + i) = 2 * i := by unfold src; rw [Nat.zero_add, if_pos hi]
        unfold halfTo; rw [e, if_pos (by have := HJ.out; have := HN.out; omega)])
      have hw1 : Wds wr (w.heap.size + 1) h h (fun i => x (2 * i + 1)) := fun i hi => (hcr (h + i) (by have := HN.out; omega)).trans (by
        have e : src h (h + i) = 2 * i + 1 := by unfold src; rw [if_neg (by omega)]; omega
        unfold halfTo; rw [e, if_pos (by have := HJ.out; have := HN.out; omega)])
      have HW := Lib.hid (And.intro hw0 hw1); clear hw0 hw1 hcr
      have tok1 : True := trivial
      go_region_held3 (fun _ => True) (trivial) (first | (go_at_call 39; refine (mul_any _ _ _).mono ?_; rintro e w' ⟨rfl, kk, rfl⟩) | (go_at_call 45; have _t := tok1; refine (HI'.out 0 (fun i => x (2 * i)) _ n (by exact hB) (by exact HW.out.1)).mono ?_; rintro e w1 ⟨⟨g1, rfl, hg1, hr1⟩, hb1⟩; clear tok1) | (go_at_call 45; refine (HI'.out h (fun i => x (2 * i + 1)) _ h (by exact Nat.lt_of_lt_of_le hB hb1.size) (by exact Wds.below (w := wr.drewN _) HW.out.2 hB (below_drewN hb1 _))).mono ?_; rintro e w2 ⟨⟨g2, rfl, hg2, hr2⟩, hb2⟩))
      have HB1 := Lib.hid hb1; have HB2 := Lib.hid hb2
      simp only [Exit.then]
      go_wp2
      have HE := Lib.hid (row_call hr1 hb2)
      have HO := Lib.hid hr2
      have HY2 := Lib.hid ((row_call (row_call hY.out HB1.out) HB2.out).congr (g := yTo h 0 (dft n r x)) (fun i _ => by unfold yTo; rw [if_neg (by omega)]))
      have HB3 := Lib.hid (below_call (below_call hbel'.out (by omega) HB1.out) (by have := HB1.out.size; simp at this; omega) HB2.out)
      have hg1' : w.heap.size < g1 := by simp at hg1; omega
      have hg2' : w.heap.size < g2 := by have := HB1.out.size; simp at hg2 this; omega
      clear hr1 hr2 hb1 hb2 HB1 HB2 HI' hs1 hs2 hwr HW hg1 hg2
      go_loopw [97, 18] (fun i a wr => ∃ j : Nat, j ≤ h ∧ i = .int .i64 j ∧ a = wd (pw r j) ∧ wr.rowIs g1 41 h (fun j => wd (dft h (r * r) (fun i => x (2 * i)) j)) ∧ wr.rowIs g2 41 h (fun j => wd (dft h (r * r) (fun i => x (2 * i + 1)) j)) ∧ wr.rowIs w.heap.size 41 n (yTo h j (dft n r x)) ∧ Below w.heap.size w wr) (fun i _ _ => h - (RowKit.intOf i).toNat)
      case atStart => exact ⟨0, Nat.zero_le _, rfl, rfl, HE.out, HO.out, HY2.out, HB3.out⟩
      case round =>
        obtain ⟨j, hj, rfl, rfl, qe, qo, qy, qb⟩ := hrel
        have he : j < h → wr.cell? ⟨g1, j, none⟩ = some (wd (dft h (r * r) (fun i => x (2 * i)) j)) := fun q => qe.cell q
        have ho : j < h → wr.cell? ⟨g2, j, none⟩ = some (wd (dft h (r * r) (fun i => x (2 * i + 1)) j)) := fun q => qo.cell q
        have hy1 : j < h → wr.cell? ⟨w.heap.size, j, none⟩ = some (yTo h j (dft n r x) j) := fun q => qy.cell (by have := HN.out; omega)
        have hy2 : j < h → wr.cell? ⟨w.heap.size, j + h, none⟩ = some (yTo h j (dft n r x) (j + h)) := fun q => qy.cell (by have := HN.out; omega)
        have hf1 : ∀ o, wr.frozen? ⟨w.heap.size, o, none⟩ = false := fun o => qy.frozen o
        have QE := Lib.hid qe; have QO := Lib.hid qo; have QY := Lib.hid qy; have QB := Lib.hid qb
        clear qe qo qy qb HE HO HY2 HB3
        by_cases hjh : j < h
        · have he := he hjh; have ho := ho hjh; have hy1 := hy1 hjh; have hy2 := hy2 hjh
          have hjn : (j : Int) + (h : Int) < (n : Int) := by have := HN.out; omega
          go_wp2_with (go_at_call 39; refine (mul_any _ _ _).mono ?_; rintro e w' ⟨rfl, kk, rfl⟩)
          have hne1 : ¬ w.heap.size = g1 := by omega
          have hjn0 : (j : Int) < (n : Int) := by omega
          have hjn1 : j < n := by omega
          have hjn2 : (0 : Int) ≤ (j : Int) + (h : Int) := by omega
          have hjn3 : ((j : Int) + (h : Int)).toNat = j + h := by omega
          have hwr : IntKind.i64.wrap (h : Int) = h := by rw [IntKind.wrap_i64]; omega
          have hwr2 : IntKind.i64.wrap ((j : Int) + (h : Int)) = (j : Int) + h := by rw [IntKind.wrap_i64]; omega
          go_region_held3 (fun w' => w'.cell? ⟨g1, j, none⟩ = some (wd (dft h (r * r) (fun i => x (2 * i)) j))) ((first | assumption | (go_simp; done))) (first | (go_at_call 62; refine (add_any _ _ _).mono ?_; rintro e w' ⟨rfl, kk, rfl⟩) | (go_at_call 63; refine (sub_any _ _ _).mono ?_; rintro e w' ⟨rfl, kk, rfl⟩))
          all_goals simp only [Exit.then]
          all_goals go_wp2_with (go_at_call 39; refine (mul_any _ _ _).mono ?_; rintro e w' ⟨rfl, kk, rfl⟩)
          have d1 : dft n r x j = dft h (r * r) (fun i => x (2 * i)) j + pw r j * dft h (r * r) (fun i => x (2 * i + 1)) j := by rw [HN.out]; exact dft_even r x j
          have d2 : dft n r x (j + h) = dft h (r * r) (fun i => x (2 * i)) j - pw r j * dft h (r * r) (fun i => x (2 * i + 1)) j := by rw [HN.out]; exact dft_odd HR.out.1 x j
          go_roundw
          case rel =>
            exact ⟨j + 1, by omega, by go_num, rfl, rowIs_drewN (((rowIs_drewN QE.out _).setOther (by simp; omega) _).setOther (by simp; omega) _) _, rowIs_drewN (((rowIs_drewN QO.out _).setOther (by simp; omega) _).setOther (by simp; omega) _) _, rowIs_drewN (y_step (rowIs_drewN QY.out _) hjh _ _ (congrArg wd d1.symm) (congrArg wd d2.symm)) _, below_drewN (((below_drewN QB.out _).setCell (Nat.le_refl _) _).setCell (Nat.le_refl _) _) _⟩
          case measure => simp [RowKit.intOf]; omega
        · go_wp2
          go_ret
          have e : j = h := by omega
          subst e
          exact ⟨⟨_, rfl, Nat.le_refl _, y_full QY.out HN.out⟩, QB.out⟩
theorem line_all (n : Nat) : 0 < n → n ≤ 192 → LineC n := by
  induction n using Nat.strongRecOn with
  | _ n ih =>
    intro h0 hn b off cap x r w hb hx h1 h2
    rcases Nat.mod_two_eq_zero_or_one n with e | e
    · have hh := h2 e
      refine line_even n (n / 2) b off cap x r w hn (by omega) (by omega) hb hx (ih (n / 2) (by omega) (by omega) (by omega)) hh (fun q => ?_)
      rw [show r * r = pw r 2 by rw [pw_succ, pw_one], ← pw_mul, show 2 * (n / 2 / 2) = n / 2 by omega]
      exact hh
    · exact line_odd n b off cap x r w hn e hb hx

end Go.Proofs.Ytjmhnmlmnlefaaa
