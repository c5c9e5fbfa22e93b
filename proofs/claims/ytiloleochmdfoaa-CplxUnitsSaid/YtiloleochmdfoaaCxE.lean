/-
  Sums of lists of complex numbers.
-/
import Derived.Test.YtiloleochmdfoaaCxD
namespace Go.Proofs.Ytiloleochmdfoaa
open Go.RowKit
attribute [local irreducible] World.setCell

set_option linter.unusedSimpArgs false
set_option linter.unusedVariables false

theorem run_carith_fl {P : Program} (op : BinOp) (hop : op = .add ∨ op = .sub ∨ op = .mul ∨ op = .quo) (x y : Nat) (w : World) : (Op.Complex.arith op .f64 x y).run P w = .ok (fr op x y w) (fw op x y w) := by
  have h : (Op.floatArith op .f64 x y).run P w = .ok (.float .f64 (fr op x y w)) (fw op x y w) := by
    have := run_fl (P := P) op hop 0 x y w
    rcases hop with rfl | rfl | rfl | rfl <;> simpa [binOp] using this
  simp [Op.Complex.arith, h]
@[go_sem] theorem run_cadd {P : Program} (t : TypeId) (a b c d : Nat) (w : World) :
    (binOp .add t (.complex .f64 a b) (.complex .f64 c d)).run P w = .ok (.complex .f64 (fr .add a c w) (fr .add b d (fw .add a c w))) (fw .add b d (fw .add a c w)) := by
  simp [binOp, Op.complexOp, run_carith_fl _ (Or.inl rfl)]
def csum (f : Nat → Nat) : Nat → Option Nat
  | 0 => some 0
  | k + 1 => fop .add (csum f k) (cn (f k))
set_option maxHeartbeats 800000 in
theorem Sum_any (bk o n c : Nat) (re im : Nat → Nat) (w : World) (hbk : bk < w.heap.size) (hcap : n ≤ c) (hn : n ≤ 8796093022208) (hc : ∀ k, k < n → w.cell? ⟨bk, o + k, none⟩ = some (.complex .f64 (re k) (im k))):
    Calls Try.prog 28 #[.slice (some ⟨bk, o, none⟩) n c] w fun e w' => (∃ r i : Nat, e = .returned (.complex .f64 r i) ∧ cn r = csum re n ∧ cn i = csum im n) ∧ Below w.heap.size w w' := by
  go_enter Try.func28, Try.ntmps28
  go_wp2
  go_loopw [8, 3] (fun i s wr => ∃ k : Nat, k ≤ n ∧ i = .int .i64 k ∧ (∃ r j : Nat, s = .complex .f64 r j ∧ cn r = csum re k ∧ cn j = csum im k) ∧ Below w.heap.size w wr) (fun i _ _ => n - (intOf i).toNat)
  case atStart => exact ⟨0, by omega, rfl, ⟨0, 0, rfl, by show cn 0 = some 0; decide +kernel, by show cn 0 = some 0; decide +kernel⟩, Below.refl _ _⟩
  case round =>
    obtain ⟨k, hk, rfl, ⟨r, j, rfl, er, ej⟩, hb⟩ := hrel
    obtain ⟨hcw, hfw⟩ := bcell hb
    by_cases hlt : k < n
    · have ck := (hb.cell (p := ⟨bk, o + k, none⟩) hbk).trans (hc k hlt)
      have hz := hb.size
      go_wp2
      go_roundw
      case rel =>
        refine ⟨k + 1, by omega, by go_num, ⟨_, _, rfl, ?_, ?_⟩, ?_⟩
        · rw [cn_fr, er]; rfl
        · rw [cn_fr, ej]; rfl
        · repeat (first | exact Below.refl _ _ | assumption | exact Below.alloc (Below.refl _ _) (Nat.le_refl _) _ | refine Below.setCell ?_ (by first | (simp; done) | (simp; omega) | omega) _ | refine below_drewN ?_ _ | refine below_fw ?_ _ _ _ | refine below_sw ?_ _ | refine Below.alloc ?_ (by first | (simp; done) | (simp; omega) | omega) _ | refine Below.trans ?_ (Below.mono (by assumption) (by first | (simp; done) | (simp; omega) | omega)))
      case measure => simp [intOf] <;> omega
    · obtain rfl : k = n := by omega
      go_wp2
      go_ret
      exact ⟨⟨r, j, rfl, er, ej⟩, hb⟩

end Go.Proofs.Ytiloleochmdfoaa
