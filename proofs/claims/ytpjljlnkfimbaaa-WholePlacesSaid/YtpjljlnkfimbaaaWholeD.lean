/-
  The law WholePlaces: it returns true.
-/
import Derived.Test.YtpjljlnkfimbaaaWholeC
namespace Go.Proofs.Ytpjljlnkfimbaaa
open Go.RowKit
attribute [local irreducible] World.setCell

theorem w_lex {m k : Int} (h : rightB m = true) (hk : rightB k = true) (hd : k % m = 0) (x : Int) : x * (k / m) * (192 / k) = x * (192 / m) := by
  rcases (rightB_iff m).1 h with rfl | rfl | rfl | rfl <;> rcases (rightB_iff k).1 hk with rfl | rfl | rfl | rfl <;> first | (simp at hd; done) | omega
theorem w_form {m k x y z : Int} (h : formB m x y z = true) (hk : rightB k = true) (hd : k % m = 0) : formB k (x * (k / m)) (y * (k / m)) (z * (k / m)) = true := by
  have hr := formB_right h
  obtain ⟨_, hx, hy, hz⟩ := formB_t h
  rcases (rightB_iff m).1 hr with rfl | rfl | rfl | rfl <;> rcases (rightB_iff k).1 hk with rfl | rfl | rfl | rfl <;> first | (simp at hd; done) | (simp [formB, rightB, inB]; omega)

theorem whole_any (a0 a1 a2 b0 b1 b2 k x0 x1 x2 n : Int) (w : World) (a0_1 : -32768 ≤ a0) (a0_2 : a0 ≤ 32767) (a1_1 : -32768 ≤ a1) (a1_2 : a1 ≤ 32767) (a2_1 : -32768 ≤ a2) (a2_2 : a2 ≤ 32767) (b0_1 : -32768 ≤ b0) (b0_2 : b0 ≤ 32767) (b1_1 : -32768 ≤ b1) (b1_2 : b1 ≤ 32767) (b2_1 : -32768 ≤ b2) (b2_2 : b2 ≤ 32767) (x0_1 : -32768 ≤ x0) (x0_2 : x0 ≤ 32767) (x1_1 : -32768 ≤ x1) (x1_2 : x1 ≤ 32767) (x2_1 : -32768 ≤ x2) (x2_2 : x2 ≤ 32767) (k_1 : 0 ≤ k) (k_2 : k ≤ 255) (n_1 : -128 ≤ n) (n_2 : n ≤ 127) : Calls Try.prog 9 #[.agg #[.int .i16 a0, .int .i16 a1, .int .i16 a2], .agg #[.int .i16 b0, .int .i16 b1, .int .i16 b2], .int .u8 k, .agg #[.int .i16 x0, .int .i16 x1, .int .i16 x2], .int .i8 n] w fun e w' => e = .returned (.bool true) ∧ Below w.heap.size w w' := by
  obtain ⟨M, eM⟩ : ∃ M, partsC k = M := ⟨_, rfl⟩
  have hR : rightB M = true := eM ▸ parts_right k
  have hp := right_pos hR
  have bd := fun x => emod_bd x M hp.1
  obtain ⟨p0, eP0⟩ : ∃ p, x0 % M = p := ⟨_, rfl⟩
  obtain ⟨p1, eP1⟩ : ∃ p, x1 % M = p := ⟨_, rfl⟩
  obtain ⟨p2, eP2⟩ : ∃ p, x2 % M = p := ⟨_, rfl⟩
  have P0 : 0 ≤ p0 ∧ p0 < M := eP0 ▸ bd x0
  have P1 : 0 ≤ p1 ∧ p1 < M := eP1 ▸ bd x1
  have P2 : 0 ≤ p2 ∧ p2 < M := eP2 ▸ bd x2
  obtain ⟨q0, eQ0⟩ : ∃ p, (p0 + b0 * (M / 24)) % M = p := ⟨_, rfl⟩
  obtain ⟨q1, eQ1⟩ : ∃ p, (p1 + b1 * (M / 24)) % M = p := ⟨_, rfl⟩
  obtain ⟨q2, eQ2⟩ : ∃ p, (p2 + b2 * (M / 24)) % M = p := ⟨_, rfl⟩
  have hP : formB M p0 p1 p2 = true := by rw [← eP0, ← eP1, ← eP2]; exact formB_mod hR _ _ _
  have hQ : formB M q0 q1 q2 = true := by rw [← eQ0, ← eQ1, ← eQ2]; exact formB_mod hR _ _ _
  have hO : formB M 0 0 0 = true := by rw [formB_zero]; exact hR
  have hF := w_form hP r192 (dvd192 hR)
  have eB0 : (q0 + ((-b0) % 24) * (M / 24)) % M = p0 := by rw [← eQ0]; exact w_back hR p0 b0 P0.1 P0.2
  have eB1 : (q1 + ((-b1) % 24) * (M / 24)) % M = p1 := by rw [← eQ1]; exact w_back hR p1 b1 P1.1 P1.2
  have eB2 : (q2 + ((-b2) % 24) * (M / 24)) % M = p2 := by rw [← eQ2]; exact w_back hR p2 b2 P2.1 P2.2
  have eD0 : (q0 - p0) % M = (0 + b0 * (M / 24)) % M := by rw [← eQ0]; exact w_moved hR p0 b0
  have eD1 : (q1 - p1) % M = (0 + b1 * (M / 24)) % M := by rw [← eQ1]; exact w_moved hR p1 b1
  have eD2 : (q2 - p2) % M = (0 + b2 * (M / 24)) % M := by rw [← eQ2]; exact w_moved hR p2 b2
  have eZ := (lexC_zero (p0 * (192 / M) * (192 / 192)) (p1 * (192 / M) * (192 / 192)) (p2 * (192 / M) * (192 / 192)) (p0 * (192 / M)) (p1 * (192 / M)) (p2 * (192 / M))).2 ⟨w_lex hR r192 (dvd192 hR) p0, w_lex hR r192 (dvd192 hR) p1, w_lex hR r192 (dvd192 hR) p2⟩
  have sw := lexC_swap (p0 * (192 / M)) (p1 * (192 / M)) (p2 * (192 / M)) (q0 * (192 / M)) (q1 * (192 / M)) (q2 * (192 / M))
  have z0 := lexC_zero (p0 * (192 / M)) (p1 * (192 / M)) (p2 * (192 / M)) (q0 * (192 / M)) (q1 * (192 / M)) (q2 * (192 / M))
  rcases lexC_three (p0 * (192 / M)) (p1 * (192 / M)) (p2 * (192 / M)) (q0 * (192 / M)) (q1 * (192 / M)) (q2 * (192 / M)) with eR | eR | eR
  · have hZ : (p0 == q0 && (p1 == q1 && p2 == q2)) = false := by
      cases hq : (p0 == q0 && (p1 == q1 && p2 == q2)) with
      | false => rfl
      | true =>
        simp only [Bool.and_eq_true, beq_iff_eq] at hq
        have := z0.2 ⟨by rw [hq.1], by rw [hq.2.1], by rw [hq.2.2]⟩
        rw [eR] at this; omega
    exact whole_n a0 a1 a2 b0 b1 b2 k x0 x1 x2 n M p0 p1 p2 q0 q1 q2 ((0 + b0 * (M / 24)) % M) ((0 + b1 * (M / 24)) % M) ((0 + b2 * (M / 24)) % M) ((0 - p0) % M) ((0 - p1) % M) ((0 - p2) % M) (p0 * (192 / M)) (p1 * (192 / M)) (p2 * (192 / M)) w a0_1 a0_2 a1_1 a1_2 a2_1 a2_2 b0_1 b0_2 b1_1 b1_2 b2_1 b2_2 x0_1 x0_2 x1_1 x1_2 x2_1 x2_2 k_1 k_2 n_1 n_2 eM hR ⟨eP0, eP1, eP2⟩ ⟨eQ0, eQ1, eQ2⟩ ⟨eB0, eB1, eB2⟩ ⟨eD0, eD1, eD2⟩ ⟨rfl, rfl, rfl⟩ ⟨rfl, rfl, rfl⟩ ⟨rfl, rfl, rfl⟩ hP hQ hO hF eZ eR (by rw [sw, eR]; try rfl) hZ
  · obtain ⟨y0, y1, y2⟩ := z0.1 eR
    have inj : ∀ u v : Int, u * (192 / M) = v * (192 / M) → u = v := fun u v h => by
      rcases (rightB_iff M).1 hR with rfl | rfl | rfl | rfl <;> omega
    obtain rfl := inj _ _ y0
    obtain rfl := inj _ _ y1
    obtain rfl := inj _ _ y2
    exact whole_z a0 a1 a2 b0 b1 b2 k x0 x1 x2 n M p0 p1 p2  ((0 + b0 * (M / 24)) % M) ((0 + b1 * (M / 24)) % M) ((0 + b2 * (M / 24)) % M) ((0 - p0) % M) ((0 - p1) % M) ((0 - p2) % M) (p0 * (192 / M)) (p1 * (192 / M)) (p2 * (192 / M)) w a0_1 a0_2 a1_1 a1_2 a2_1 a2_2 b0_1 b0_2 b1_1 b1_2 b2_1 b2_2 x0_1 x0_2 x1_1 x1_2 x2_1 x2_2 k_1 k_2 n_1 n_2 eM hR ⟨eP0, eP1, eP2⟩ ⟨eQ0, eQ1, eQ2⟩ ⟨eB0, eB1, eB2⟩ ⟨eD0, eD1, eD2⟩ ⟨rfl, rfl, rfl⟩ ⟨rfl, rfl, rfl⟩ ⟨rfl, rfl, rfl⟩ hP hQ hO hF eZ eR eR
  · have hZ : (p0 == q0 && (p1 == q1 && p2 == q2)) = false := by
      cases hq : (p0 == q0 && (p1 == q1 && p2 == q2)) with
      | false => rfl
      | true =>
        simp only [Bool.and_eq_true, beq_iff_eq] at hq
        have := z0.2 ⟨by rw [hq.1], by rw [hq.2.1], by rw [hq.2.2]⟩
        rw [eR] at this; omega
    exact whole_p a0 a1 a2 b0 b1 b2 k x0 x1 x2 n M p0 p1 p2 q0 q1 q2 ((0 + b0 * (M / 24)) % M) ((0 + b1 * (M / 24)) % M) ((0 + b2 * (M / 24)) % M) ((0 - p0) % M) ((0 - p1) % M) ((0 - p2) % M) (p0 * (192 / M)) (p1 * (192 / M)) (p2 * (192 / M)) w a0_1 a0_2 a1_1 a1_2 a2_1 a2_2 b0_1 b0_2 b1_1 b1_2 b2_1 b2_2 x0_1 x0_2 x1_1 x1_2 x2_1 x2_2 k_1 k_2 n_1 n_2 eM hR ⟨eP0, eP1, eP2⟩ ⟨eQ0, eQ1, eQ2⟩ ⟨eB0, eB1, eB2⟩ ⟨eD0, eD1, eD2⟩ ⟨rfl, rfl, rfl⟩ ⟨rfl, rfl, rfl⟩ ⟨rfl, rfl, rfl⟩ hP hQ hO hF eZ eR (by rw [sw, eR]; try rfl) hZ
end Go.Proofs.Ytpjljlnkfimbaaa
