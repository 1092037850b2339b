import Derived.Test.YtladcfeibpddeabKnuthL
set_option linter.unusedVariables false
namespace Go.VM
/-! ### the k-th root of a number -/
def IsRoot (A k r : Nat) : Prop := r ^ k ≤ A ∧ A < (r + 1) ^ k
theorem root_exists {A k : Nat} (hk : 0 < k) : ∃ r, IsRoot A k r := by
  have key : ∀ n, A < (n + 1) ^ k → ∃ r, IsRoot A k r := by
    intro n
    induction n with
    | zero => intro h; exact ⟨0, by rw [Nat.zero_pow hk]; exact Nat.zero_le _, h⟩
    | succ n ih =>
      intro h
      rcases Nat.lt_or_ge A ((n + 1) ^ k) with g | g
      · exact ih g
      · exact ⟨n + 1, g, h⟩
  refine key A ?_
  have h1 : (A + 1) ^ 1 ≤ (A + 1) ^ k := Nat.pow_le_pow_right (by omega) hk
  rw [Nat.pow_one] at h1
  omega
theorem root_unique {A k r s : Nat} (hr : IsRoot A k r) (hs : IsRoot A k s) : r = s := by
  have key : ∀ {r s : Nat}, IsRoot A k r → IsRoot A k s → ¬ r < s := fun {r s} hr hs h => by
    have : (r + 1) ^ k ≤ s ^ k := Nat.pow_le_pow_left h k
    have := hr.2; have := hs.1
    omega
  have h1 := key hr hs
  have h2 := key hs hr
  omega
theorem sq_le (r x : Nat) : 2 * (r * x) ≤ r * r + x * x := by
  rcases Nat.le_total r x with h | h
  · obtain ⟨d, rfl⟩ := Nat.le.dest h
    have : (r + d) * (r + d) = r * r + r * d + (r * d + d * d) := by rw [Nat.add_mul, Nat.mul_add, Nat.mul_add, Nat.mul_comm d r]
    rw [this, Nat.mul_add]
    omega
  · obtain ⟨d, rfl⟩ := Nat.le.dest h
    have : (x + d) * (x + d) = x * x + x * d + (x * d + d * d) := by rw [Nat.add_mul, Nat.mul_add, Nat.mul_add, Nat.mul_comm d x]
    rw [this, Nat.add_mul, Nat.mul_comm d x]
    omega
theorem bern (r x : Nat) : ∀ k : Nat, (k + 1) * (r * x ^ k) ≤ k * x ^ (k + 1) + r ^ (k + 1)
  | 0 => by simp
  | k + 1 => by
    have ih := Nat.mul_le_mul_left r (bern r x k)
    have sq := Nat.mul_le_mul_left ((k + 1) * x ^ k) (sq_le r x)
    have e1 : r * ((k + 1) * (r * x ^ k)) = (k + 1) * x ^ k * (r * r) := by ac_rfl
    have e2 : r * (k * x ^ (k + 1) + r ^ (k + 1)) = k * (r * x ^ (k + 1)) + r ^ (k + 1 + 1) := by
      rw [Nat.mul_add, Nat.pow_succ r (k + 1)]; ac_rfl
    have e3 : (k + 1) * x ^ k * (2 * (r * x)) = (k + 1) * (r * x ^ (k + 1)) + (k + 1) * (r * x ^ (k + 1)) := by
      rw [Nat.pow_succ, ← Nat.two_mul]; ac_rfl
    have e4 : (k + 1) * x ^ k * (x * x) = (k + 1) * x ^ (k + 1 + 1) := by rw [Nat.pow_succ, Nat.pow_succ]; ac_rfl
    have e5 : (k + 1 + 1) * (r * x ^ (k + 1)) = (k + 1) * (r * x ^ (k + 1)) + r * x ^ (k + 1) := by rw [Nat.add_mul (k + 1) 1, Nat.one_mul]
    have e6 : (k + 1) * (r * x ^ (k + 1)) = k * (r * x ^ (k + 1)) + r * x ^ (k + 1) := by rw [Nat.add_mul k 1, Nat.one_mul]
    rw [e1, e2] at ih
    rw [e3, Nat.mul_add, e4] at sq
    rw [e5]
    omega
theorem newton_ge {A j r x : Nat} (hr : r ^ (j + 1) ≤ A) (hx : 0 < x) : r ≤ (x * j + A / x ^ j) / (j + 1) := by
  rw [Nat.le_div_iff_mul_le (by omega)]
  have hp : 0 < x ^ j := Nat.pow_pos hx
  have h := bern r x j
  have e : A / x ^ j + x * j = (A + x * j * x ^ j) / x ^ j := (Nat.add_mul_div_right A (x * j) hp).symm
  rw [Nat.add_comm (x * j), e, Nat.le_div_iff_mul_le hp]
  have e2 : r * (j + 1) * x ^ j = (j + 1) * (r * x ^ j) := by ac_rfl
  have e3 : x * j * x ^ j = j * x ^ (j + 1) := by rw [Nat.pow_succ]; ac_rfl
  rw [e2, e3]
  omega
theorem newton_stop {A j x : Nat} (hx : 0 < x) (h : x ≤ (x * j + A / x ^ j) / (j + 1)) : x ^ (j + 1) ≤ A := by
  rw [Nat.le_div_iff_mul_le (by omega), Nat.mul_add, Nat.mul_one] at h
  have h2 : x ≤ A / x ^ j := by omega
  rw [Nat.le_div_iff_mul_le (Nat.pow_pos hx)] at h2
  rw [Nat.pow_succ, Nat.mul_comm]
  exact h2
theorem newton_start {A L k c : Nat} (hA : A < 2 ^ L) (hk : 0 < k) (hc : c = (L + k - 1) / k) : A < (2 ^ c) ^ k := by
  refine Nat.lt_of_lt_of_le hA ?_
  rw [← Nat.pow_mul]
  refine Nat.pow_le_pow_right (by decide) ?_
  have h1 := Nat.div_add_mod (L + k - 1) k
  have h2 := Nat.mod_lt (L + k - 1) hk
  rw [← hc, Nat.mul_comm] at h1
  omega
theorem lt_of_pow_lt {a b k : Nat} (h : a ^ k < b ^ k) : a < b := by
  rcases Nat.lt_or_ge a b with g | g
  · exact g
  · have := Nat.pow_le_pow_left g k
    omega
theorem bl_half {k L : Nat} (hk : 2 ≤ k) : (L + k - 1) / k ≤ (L + 1) / 2 := by
  rw [Nat.div_le_iff_le_mul_add_pred (by omega)]
  have h1 := Nat.div_add_mod (L + 1) 2
  have h2 := Nat.mod_lt (L + 1) (show 0 < 2 by decide)
  have h3 : 2 * ((L + 1) / 2) ≤ k * ((L + 1) / 2) := Nat.mul_le_mul_right _ hk
  omega
theorem bl_prod {x j c e : Nat} (hx : x ≤ 2 ^ c) (hj : j < 2 ^ e) : x * j < 2 ^ (c + e) := by
  rw [Nat.pow_add]
  rcases Nat.eq_zero_or_pos j with h | h
  · rw [h, Nat.mul_zero]; exact Nat.mul_pos (Nat.two_pow_pos c) (Nat.two_pow_pos e)
  · exact Nat.lt_of_le_of_lt (Nat.mul_le_mul_right j hx) (Nat.mul_lt_mul_of_pos_left hj (Nat.two_pow_pos c))
theorem bl_sum {a b m : Nat} (ha : a < 2 ^ m) (hb : b < 2 ^ m) : a + b < 2 ^ (m + 1) := by rw [Nat.pow_succ]; omega
/-- a root of a root -/
theorem root_root {A k m r s : Nat} (hr : IsRoot A k r) (hs : IsRoot r m s) (hk : 0 < k) : IsRoot A (m * k) s := by
  refine ⟨?_, ?_⟩
  · rw [Nat.pow_mul]
    exact Nat.le_trans (Nat.pow_le_pow_left hs.1 k) hr.1
  · rw [Nat.pow_mul]
    exact Nat.lt_of_lt_of_le hr.2 (Nat.pow_le_pow_left hs.2 k)
theorem root_mono {A B k r s : Nat} (hr : IsRoot A k r) (hs : IsRoot B k s) (h : A ≤ B) : r ≤ s := by
  have : r ^ k < (s + 1) ^ k := Nat.lt_of_le_of_lt hr.1 (Nat.lt_of_le_of_lt h hs.2)
  have := lt_of_pow_lt this
  omega
theorem root_next {A k r s : Nat} (hr : IsRoot A k r) (hs : IsRoot (A + 1) k s) : s ≤ r + 1 := by
  rcases Nat.lt_or_ge (r + 1) s with g | g
  · have h1 : (r + 1) ^ k < A + 1 ∨ (r + 1) ^ k = A + 1 ∨ A + 1 < (r + 1) ^ k := by omega
    have h2 : (r + 1 + 1) ^ k ≤ s ^ k := Nat.pow_le_pow_left g k
    have h3 : (r + 1) ^ k ≤ (r + 1 + 1) ^ k := Nat.pow_le_pow_left (by omega) k
    have := hr.2; have := hs.1
    have h4 : (r + 1) ^ k = (r + 1 + 1) ^ k := by omega
    rcases Nat.eq_zero_or_pos k with hk | hk
    · subst hk
      have := hs.2
      rw [Nat.pow_zero] at this
      omega
    · have := Nat.pow_lt_pow_left (show r + 1 < r + 1 + 1 by omega) (Nat.pos_iff_ne_zero.1 hk)
      omega
  · exact g
end Go.VM
