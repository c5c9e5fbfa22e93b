/-
  Lists of complex numbers made of patterns of bits.
-/
import Derived.Test.YtiloleochmdfoaaCxG
import Derived.Laws.OwnMore
import Derived.OwnWalk
namespace Go.Proofs.Ytiloleochmdfoaa
open Go.RowKit
attribute [local irreducible] World.setCell

set_option linter.unusedSimpArgs false
set_option linter.unusedVariables false

theorem ownsRow_below {w w' : World} {base : Nat} {e : TypeId} {size : Nat} {v : Value} {n : Nat} {xs : List Value} (h : w.ownsRow base e size v n xs) (hb : Below w.heap.size w w') : w'.ownsRow base e size v n xs := by
  refine ⟨h.1, ?_⟩
  rcases h.2 with hn | ⟨g, cap, cur, rfl, hbs, hg, rest⟩
  · exact .inl hn
  · refine .inr ⟨g, cap, cur, rfl, hbs, ?_, rest⟩
    rw [hb.block g (Array.getElem?_eq_some_iff.1 hg).1]
    exact hg
theorem Try.info25 : (Try.prog.info? 25).map (fun i => (i.zero, i.size, i.bytes)) = some (some (.complex .f64 0 0), 1, 16) := by kernel_rfl
def CXV (x y : Nat → Int) (k : Nat) : Value := .complex .f64 (x k).toNat (y k).toNat
def CXL (x y : Nat → Int) (n : Nat) : List Value := (List.range n).map (CXV x y)
theorem CXL_succ (x y : Nat → Int) (n : Nat) : CXL x y n ++ [.complex .f64 (x n).toNat (y n).toNat] = CXL x y (n + 1) := by
  unfold CXL; rw [List.range_succ, List.map_append]; rfl
theorem CXL_at (x y : Nat → Int) (n j : Nat) (h : j < n) : (CXL x y n)[j]? = some (CXV x y j) := by
  unfold CXL; simp [h]
theorem owned_lt {w : World} {base : Nat} {e : TypeId} {size : Nat} {v : Value} {n : Nat} {xs : List Value} (h : w.ownsRow base e size v n xs) : ∀ k, v.ownBlock = some k → base ≤ k := by
  intro k hk
  rcases h.2 with ⟨rfl, _⟩ | ⟨g, cap, cur, rfl, hb, _⟩
  · cases hk
  · cases hk; exact hb
set_option maxHeartbeats 1600000 in
theorem numbers_some (bk o n c : Nat) (x y : Nat → Int) (w : World) (hbk : bk < w.heap.size) (hcap : n ≤ c) (hn : n * 16 ≤ 140737488351232) (hc0 : ∀ k, k < n → w.cell? ⟨bk, o + 2 * k, none⟩ = some (.int .u64 (x k))) (hc1 : ∀ k, k < n → w.cell? ⟨bk, o + 2 * k + 1, none⟩ = some (.int .u64 (y k))):
    Calls Try.prog 27 #[.slice (some ⟨bk, o, none⟩) n c] w fun e w' => ∃ v, e = .returned v ∧ w'.ownsRow w.heap.size 25 1 v n (CXL x y n) ∧ Below w.heap.size w w' := by
  obtain ⟨i0, hi, hq0, hq1, hq2⟩ := info_parts Try.info25
  go_enter Try.func27, Try.ntmps27
  go_wp2
  go_loopw [8, 3] (fun i s wr => ∃ k : Nat, k ≤ n ∧ i = .int .i64 k ∧ wr.ownsRow w.heap.size 25 1 s k (CXL x y k) ∧ Below w.heap.size w wr) (fun i _ _ => n - (intOf i).toNat)
  case atStart => exact ⟨0, by omega, rfl, ⟨rfl, .inl ⟨rfl, rfl⟩⟩, Below.refl _ _⟩
  case round =>
    obtain ⟨k, hk, rfl, hown, hb⟩ := hrel
    have hz := hb.size
    by_cases hlt : k < n
    · have c0 := (hb.cell (p := ⟨bk, o + 2 * k, none⟩) hbk).trans (hc0 k hlt)
      have c1 := (hb.cell (p := ⟨bk, o + 2 * k + 1, none⟩) hbk).trans (hc1 k hlt)
      have e1 : o + k * 2 = o + 2 * k := by omega
      have hbw : bk < wr.heap.size := by omega
      go_wp2_with fail
      refine (of_any _ _ _).mono ?_
      rintro e w1 ⟨rfl, hb1⟩
      have hz1 := hb1.size
      try simp at hz1
      have hB : Below wr.heap.size wr w1 := by
        repeat (first | exact Below.refl _ _ | assumption | exact Below.alloc (Below.refl _ _) (Nat.le_refl _) _ | refine Below.setCell ?_ (by first | (simp; done) | (simp; omega) | omega) _ | refine below_drewN ?_ _ | refine below_fw ?_ _ _ _ | refine below_sw ?_ _ | refine Below.alloc ?_ (by first | (simp; done) | (simp; omega) | omega) _ | refine Below.trans ?_ (Below.mono (by assumption) (by first | (simp; done) | (simp; omega) | omega)))
      have hO := ownsRow_below hown hB
      go_wp2_with (at_builtin; refine wpList_append_own _ rfl _ _ 45 rfl w.heap.size 25 i0 (.complex .f64 0 0) 1 16 Try.underlying45 hi hq0 hq1 hq2 rfl (by decide) _ _ _ rfl (hO.alloc _) ⟨w1.heap.size, 0, none⟩ 1 1 [.complex .f64 (x k).toNat (y k).toNat] rfl rfl ?c1 ?c2 ?c3 ?c4 ?c5 ?_)
      case c1 =>
        intro j u hj
        match j, hj with
        | 0, hj => simp at hj; subst hj; simp [Addr.add]
      case c2 => intro u hu; simp at hu; subst hu; rfl
      case c3 => unfold maxLen; omega
      case c4 => omega
      case c5 => simp; omega
      · intro v' w2 hown' hgrow _
        rw [CXL_succ] at hown'
        have hB2 : Below w.heap.size w w2 := Below.grown ((hb.trans (hB.mono (by omega))).alloc (by omega) _) hgrow (by simp; omega) (owned_lt hown)
        go_wp2
        go_roundw
        case rel => exact ⟨k + 1, by omega, by go_num, hown', hB2⟩
        case measure => simp [intOf] <;> omega
    · obtain rfl : k = n := by omega
      go_wp2
      go_ret
      exact ⟨_, rfl, hown, hb⟩

end Go.Proofs.Ytiloleochmdfoaa
