/-
  The law FracSums, walked: it returns true.
-/
import Derived.Test.YtpjljlnkfimbaaaFracI
namespace Go.Proofs.Ytpjljlnkfimbaaa
open Go.RowKit
attribute [local irreducible] World.setCell

set_option maxHeartbeats 400000 in
theorem sums_any (a0 a1 a2 b0 b1 b2 n : Int) (w : World) :
    Calls Try.prog 4 #[.agg #[.int .i64 a0, .int .i64 a1, .int .i64 a2], .agg #[.int .i64 b0, .int .i64 b1, .int .i64 b2], .int .i64 n] w fun e w' => e = .returned (.bool true) ∧ Below w.heap.size w w' := by
  go_enter Try.func4, Try.ntmps4
  go_wp2_with (go_at_call 10; refine (awake_any _).mono ?_; rintro e w' ⟨rfl, hb⟩; obtain ⟨hc, hf⟩ := bcell hb; have hz := hb.size; (try simp at hz); try have z0 : w.heap.size < w'.heap.size := (by omega); try have z1 : w.heap.size + 1 < w'.heap.size := (by omega); try have z2 : w.heap.size + 1 + 1 < w'.heap.size := (by omega))
  refine region_all (by kernel_rfl) (by kernel_rfl) ?_
  repeat (go_big_quiet_step (first | (go_at_call 17; exact held_of _ (Nat.le_refl _) (add_any _ _ _ _ _ _ _)) | (go_at_call 18; exact held_of _ (Nat.le_refl _) (radd_any _ _ _ _ _ _ _ _ (by omega) (by omega))) | (go_at_call 19; exact held_of _ (Nat.le_refl _) (sub_any _ _ _ _ _ _ _)) | (go_at_call 20; exact held_of _ (Nat.le_refl _) (rsub_any _ _ _ _ _ _ _ _ (by omega) (by omega))) | (go_at_call 21; exact held_of _ (Nat.le_refl _) (neg_any _ _ _ _)) | (go_at_call 22; exact held_of _ (Nat.le_refl _) (rneg_any _ _ _ _ _ (by omega) (by omega))) | (go_at_call 23; exact held_of _ (Nat.le_refl _) (times_any _ _ _ _ _)) | (go_at_call 24; exact held_of _ (Nat.le_refl _) (rtimes_any _ _ _ _ _ _ (by omega) (by omega)))))
  refine wpQuiet_nil ?_
  rintro w' ⟨⟨w0, hb⟩, rfl⟩
  obtain ⟨hc, hf⟩ := bcell hb
  have hz := hb.size
  try simp at hz
  try have z0 : w.heap.size < w'.heap.size := (by omega)
  try have z1 : w.heap.size + 1 < w'.heap.size := (by omega)
  try have z2 : w.heap.size + 1 + 1 < w'.heap.size := (by omega)
  go_wp2
  go_ret
  refine ⟨rfl, ?_⟩
  repeat (first | exact Below.refl _ _ | assumption | exact Below.alloc (Below.refl _ _) (Nat.le_refl _) _ | refine Below.setCell ?_ (by first | (simp; done) | (simp; omega) | omega) _ | refine below_drewN ?_ _ | refine Below.alloc ?_ (by first | (simp; done) | (simp; omega) | omega) _ | refine Below.trans ?_ (Below.mono (by assumption) (by first | (simp; done) | (simp; omega) | omega)))

end Go.Proofs.Ytpjljlnkfimbaaa
