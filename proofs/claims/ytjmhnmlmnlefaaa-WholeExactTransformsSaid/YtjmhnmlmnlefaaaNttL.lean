/-
  Plain law: a transform of all lines of a box along one edge; the fold of two boxes.
-/
import Derived.Test.YtjmhnmlmnlefaaaNttR
namespace Go.Proofs.Ytjmhnmlmnlefaaa

/-- The first place of the line on which a place lies. -/
def bs (s m i : Nat) : Nat := i - i / s % m * s
/-- Its number on that line. -/
def co (s m i : Nat) : Nat := i / s % m
theorem bs_add {s m i : Nat} : bs s m i + co s m i * s = i := by
  unfold bs co
  have h1 : i / s % m * s ≤ i / s * s := Nat.mul_le_mul_right _ (Nat.mod_le _ _)
  have h2 : i / s * s ≤ i := Nat.div_mul_le_self _ _
  omega
theorem bs_div {s m i : Nat} : bs s m i / s = i / s - i / s % m := by
  have h1 : i / s % m * s ≤ i / s * s := Nat.mul_le_mul_right _ (Nat.mod_le _ _)
  have h2 : i / s * s ≤ i := Nat.div_mul_le_self _ _
  have := Nat.sub_mul_div i s (i / s % m)
  unfold bs
  rw [Nat.mul_comm (i / s % m) s]
  exact this
theorem co_bs {s m i : Nat} : co s m (bs s m i) = 0 := by
  unfold co
  rw [bs_div]
  have := Nat.div_add_mod (i / s) m
  have e : i / s - i / s % m = m * (i / s / m) := by omega
  rw [e, Nat.mul_mod_right]
theorem co_lt {s m i : Nat} (hm : 0 < m) : co s m i < m := Nat.mod_lt _ hm
theorem at_div {s a i : Nat} (hs : 0 < s) : (a + i * s) / s = a / s + i := Nat.add_mul_div_right _ _ hs
theorem co_at {s m a i : Nat} (hs : 0 < s) (ha : co s m a = 0) (hi : i < m) : co s m (a + i * s) = i := by
  unfold co at *
  rw [at_div hs, Nat.add_mod, ha, Nat.zero_add, Nat.mod_mod, Nat.mod_eq_of_lt hi]
theorem bs_at {s m a i : Nat} (hs : 0 < s) (ha : co s m a = 0) (hi : i < m) : bs s m (a + i * s) = a := by
  have e := bs_add (s := s) (m := m) (i := a + i * s)
  rw [co_at hs ha hi] at e
  omega
theorem bs_iff {s m a i j : Nat} (hs : 0 < s) (ha : co s m a = 0) (hi : i < m) : (j = a + i * s) ↔ (bs s m j = a ∧ co s m j = i) := by
  constructor
  · rintro rfl; exact ⟨bs_at hs ha hi, co_at hs ha hi⟩
  · rintro ⟨rfl, rfl⟩; exact bs_add.symm
theorem bs_le {s m i : Nat} : bs s m i ≤ i := Nat.sub_le _ _
theorem at_lt {s m a i L Q : Nat} (hs : 0 < s) (hL : L = Q * (m * s)) (ha : co s m a = 0) (hl : a < L) (hi : i < m) : a + i * s < L := by
  -- a = (c * m) * s + r
  have e1 := Nat.div_add_mod a s
  have hr := Nat.mod_lt a hs
  have e2 : a / s = m * (a / s / m) := by
    have := Nat.div_add_mod (a / s) m
    have h0 : a / s % m = 0 := ha
    omega
  generalize a / s / m = c at e2
  have hc : c < Q := by
    rcases Nat.lt_or_ge c Q with q | q
    · exact q
    · exfalso
      have : Q * (m * s) ≤ c * (m * s) := Nat.mul_le_mul_right _ q
      have e3 : s * (a / s) = c * (m * s) := by rw [e2]; ac_rfl
      omega
  have h1 : (c + 1) * (m * s) ≤ Q * (m * s) := Nat.mul_le_mul_right _ hc
  have e3 : s * (a / s) = c * (m * s) := by rw [e2]; ac_rfl
  have h2 : (i + 1) * s ≤ m * s := Nat.mul_le_mul_right _ hi
  rw [Nat.succ_mul] at h1 h2
  omega
/-- All lines transformed by T. -/
def alongF (T : (Nat → F) → Nat → F) (s m : Nat) (X : Nat → F) (i : Nat) : F := T (fun k => X (bs s m i + k * s)) (co s m i)
/-- What a box reads when the lines that begin below a are done, and of that which begins at a the first k places. -/
def mix (T : (Nat → F) → Nat → F) (s m : Nat) (X : Nat → F) (a k : Nat) (i : Nat) : F := if bs s m i < a ∨ (bs s m i = a ∧ co s m i < k) then alongF T s m X i else X i
theorem mix_none (T : (Nat → F) → Nat → F) (s m : Nat) (X : Nat → F) (i : Nat) : mix T s m X 0 0 i = X i := by unfold mix; rw [if_neg (by omega)]
theorem mix_old (T : (Nat → F) → Nat → F) {s m a i : Nat} (X : Nat → F) (hs : 0 < s) (ha : co s m a = 0) (hi : i < m) {k : Nat} (hk : k ≤ i) : mix T s m X a k (a + i * s) = X (a + i * s) := by
  unfold mix
  rw [bs_at hs ha hi, co_at hs ha hi, if_neg (by omega)]
theorem mix_step (T : (Nat → F) → Nat → F) {s m a k : Nat} (X : Nat → F) (hs : 0 < s) (ha : co s m a = 0) (hk : k < m) (j : Nat) :
    mix T s m X a (k + 1) j = if j = a + k * s then T (fun i => X (a + i * s)) k else mix T s m X a k j := by
  by_cases e : j = a + k * s
  · rw [if_pos e]
    subst e
    unfold mix alongF
    rw [bs_at hs ha hk, co_at hs ha hk, if_pos (by omega)]
  · rw [if_neg e]
    have hne : ¬ (bs s m j = a ∧ co s m j = k) := fun h => e ((bs_iff hs ha hk).2 h)
    unfold mix
    by_cases q : bs s m j < a ∨ (bs s m j = a ∧ co s m j < k)
    · rw [if_pos q, if_pos (by omega)]
    · rw [if_neg q, if_neg (by omega)]
theorem mix_all (T : (Nat → F) → Nat → F) {s m a : Nat} (X : Nat → F) (hm : 0 < m) (j : Nat) : mix T s m X (a + 1) 0 j = mix T s m X a m j := by
  have := co_lt (s := s) (i := j) hm
  unfold mix
  by_cases q : bs s m j < a ∨ (bs s m j = a ∧ co s m j < m)
  · rw [if_pos q, if_pos (by omega)]
  · rw [if_neg q, if_neg (by omega)]
theorem mix_skip (T : (Nat → F) → Nat → F) {s m a : Nat} (X : Nat → F) (ha : co s m a ≠ 0) (j : Nat) : mix T s m X (a + 1) 0 j = mix T s m X a 0 j := by
  have hb : bs s m j ≠ a := fun e => ha (by rw [← e]; exact co_bs)
  unfold mix
  by_cases q : bs s m j < a ∨ (bs s m j = a ∧ co s m j < 0)
  · rw [if_pos q, if_pos (by omega)]
  · rw [if_neg q, if_neg (by omega)]
theorem mix_end (T : (Nat → F) → Nat → F) {s m L : Nat} (X : Nat → F) {j : Nat} (hj : j < L) : mix T s m X L 0 j = alongF T s m X j := by
  unfold mix
  rw [if_pos (by have := bs_le (s := s) (m := m) (i := j); omega)]
end Go.Proofs.Ytjmhnmlmnlefaaa
