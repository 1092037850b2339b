import Derived.Test.YtladcfeibpddeabNatL
set_option linter.unusedVariables false
set_option maxRecDepth 20000
namespace Go.VM
/-! ### one digit of a long division (digits below b; v = v1 b + v0) -/
section
variable {b n u v v1 v0 q r : Nat}
theorem kd_up (hb : 0 < b) (hu : u < b) (hv : v = v1 * b + v0) (h1 : 0 < v1) : (n * b + u) / v ≤ n / v1 := by
  rw [Nat.le_div_iff_mul_le h1]
  have hvp : 0 < v := by rw [hv]; have := Nat.mul_pos h1 hb; omega
  have h2 : (n * b + u) / v * v ≤ n * b + u := Nat.div_mul_le_self _ _
  generalize (n * b + u) / v = Q at *
  rw [hv, Nat.mul_add, ← Nat.mul_assoc] at h2
  have h3 : Q * v1 * b < (n + 1) * b := by rw [Nat.add_mul, Nat.one_mul]; omega
  have := Nat.lt_of_mul_lt_mul_right h3
  omega
theorem kd_lt (hb : 0 < b) (hu : u < b) (hn : n < v) : (n * b + u) / v < b := by
  rw [Nat.div_lt_iff_lt_mul (by omega)]
  have : (n + 1) * b ≤ v * b := Nat.mul_le_mul_right _ hn
  rw [Nat.add_mul, Nat.one_mul] at this
  rw [Nat.mul_comm b v]
  omega
/-- the digit is too great -/
theorem kd_dec (hb : 0 < b) (hu : u < b) (hv : v = v1 * b + v0) (h1 : 0 < v1) (hn : n < v) (he : q * v1 + r = n) (hc : b ≤ q ∨ b * r + u < q * v0) : (n * b + u) / v < q := by
  rcases hc with hc | hc
  · exact Nat.lt_of_lt_of_le (kd_lt hb hu hn) hc
  · have hvp : 0 < v := by rw [hv]; have := Nat.mul_pos h1 hb; omega
    rw [Nat.div_lt_iff_lt_mul hvp, hv, Nat.mul_add, ← he, Nat.add_mul, ← Nat.mul_assoc, Nat.mul_comm r b]
    omega
/-- the digit is not too great -/
theorem kd_le (hb : 0 < b) (hv : v = v1 * b + v0) (h1 : 0 < v1) (he : q * v1 + r = n) (hc : q * v0 ≤ b * r + u) : q ≤ (n * b + u) / v := by
  have hvp : 0 < v := by rw [hv]; have := Nat.mul_pos h1 hb; omega
  rw [Nat.le_div_iff_mul_le hvp, hv, Nat.mul_add, ← he, Nat.add_mul, ← Nat.mul_assoc, Nat.mul_comm r b]
  omega
theorem kd_big (hb : 0 < b) (hv : v = v1 * b + v0) (h1 : 0 < v1) (h0 : v0 < b) (he : q * v1 + r = n) (hq : q ≤ b) (hr : b ≤ r) : q ≤ (n * b + u) / v := by
  refine kd_le hb hv h1 he ?_
  have h2 : q * v0 ≤ b * v0 := Nat.mul_le_mul_right _ hq
  have h3 : b * v0 ≤ b * r := Nat.mul_le_mul_left _ (by omega)
  omega
end
theorem kd_first {n v v1 v0 : Nat} (hv : v = v1 * 4294967296 + v0) (h1 : 2147483648 ≤ v1) (h0 : v0 < 4294967296) (hn : n < v) : n / v1 ≤ 4294967297 := by
  have h : n / v1 < 4294967298 := by
    rw [Nat.div_lt_iff_lt_mul (by omega)]
    omega
  omega
/-- modulo 2^64 the rest comes out -/
theorem kd_rest0 {N u p r : Nat} (h : p + r = N + u) (hr : r < 18446744073709551616) :
    ((N % 18446744073709551616 + u) % 18446744073709551616 + (18446744073709551616 - p % 18446744073709551616 % 18446744073709551616)) % 18446744073709551616 = r := by omega
theorem kd_rest {n u v q : Nat} (hq : q = (n * 4294967296 + u) / v) (hv : v < 18446744073709551616) (hv0 : 0 < v) :
    ((n * 4294967296 % 18446744073709551616 + u) % 18446744073709551616 + (18446744073709551616 - q * v % 18446744073709551616 % 18446744073709551616)) % 18446744073709551616 = (n * 4294967296 + u) % v := by
  refine kd_rest0 ?_ (Nat.lt_trans (Nat.mod_lt (n * 4294967296 + u) hv0) hv)
  have := Nat.div_add_mod (n * 4294967296 + u) v
  rw [← hq] at this
  rw [Nat.mul_comm q v]
  exact this
theorem kd_two0 {h l v q1 r1 q0 r0 : Nat} (hv : 0 < v) (e1 : v * q1 + r1 = h * 4294967296 + l / 4294967296) (e2 : v * q0 + r0 = r1 * 4294967296 + l % 4294967296) (e4 : r0 < v) :
    q1 * 4294967296 + q0 = (h * 18446744073709551616 + l) / v ∧ r0 = (h * 18446744073709551616 + l) % v := by
  have e3 : h * 18446744073709551616 + l = v * (q1 * 4294967296 + q0) + r0 := by
    rw [Nat.mul_add, ← Nat.mul_assoc]
    generalize v * q1 = p at *
    generalize v * q0 = p' at *
    omega
  rw [e3]
  refine ⟨?_, ?_⟩
  · rw [Nat.mul_add_div hv, Nat.div_eq_of_lt e4, Nat.add_zero]
  · rw [Nat.mul_add_mod, Nat.mod_eq_of_lt e4]
/-- two digits make the quotient -/
theorem kd_two {h l v : Nat} (hv : 0 < v) (hl : l < 18446744073709551616) :
    ((h * 4294967296 + l / 4294967296) / v) * 4294967296 + (((h * 4294967296 + l / 4294967296) % v) * 4294967296 + l % 4294967296) / v = (h * 18446744073709551616 + l) / v ∧
    (((h * 4294967296 + l / 4294967296) % v) * 4294967296 + l % 4294967296) % v = (h * 18446744073709551616 + l) % v := by
  have e1 := Nat.div_add_mod (h * 4294967296 + l / 4294967296) v
  have e2 := Nat.div_add_mod ((h * 4294967296 + l / 4294967296) % v * 4294967296 + l % 4294967296) v
  have e4 := Nat.mod_lt ((h * 4294967296 + l / 4294967296) % v * 4294967296 + l % 4294967296) hv
  exact kd_two0 hv e1 e2 e4
end Go.VM
namespace Go.VM
theorem norm_shift {y : Nat} (h0 : 0 < y) (h : y < 18446744073709551616) : y * 2 ^ (64 - bl y) < 18446744073709551616 ∧ 9223372036854775808 ≤ y * 2 ^ (64 - bl y) := by
  have h1 := lt_bl y
  have h2 := le_of_bl h0
  have h3 : bl y ≤ 64 := bl_le h
  have h4 := bl_pos h0
  constructor
  · have : y * 2 ^ (64 - bl y) < 2 ^ bl y * 2 ^ (64 - bl y) := Nat.mul_lt_mul_of_pos_right h1 (Nat.two_pow_pos _)
    rw [← Nat.pow_add, show bl y + (64 - bl y) = 64 by omega] at this
    exact this
  · have : 2 ^ (bl y - 1) * 2 ^ (64 - bl y) ≤ y * 2 ^ (64 - bl y) := Nat.mul_le_mul_right _ h2
    rw [← Nat.pow_add, show bl y - 1 + (64 - bl y) = 63 by omega] at this
    exact this
/-- two limbs, shifted -/
theorem shift_two {hi lo s : Nat} (hs : s ≤ 64) (hlo : lo < 18446744073709551616) :
    lo / 2 ^ (64 - s) < 2 ^ s ∧ (hi * 18446744073709551616 + lo) * 2 ^ s = (hi * 2 ^ s + lo / 2 ^ (64 - s)) * 18446744073709551616 + lo * 2 ^ s % 18446744073709551616 := by
  have e : (18446744073709551616 : Nat) = 2 ^ (64 - s) * 2 ^ s := by rw [← Nat.pow_add, show 64 - s + s = 64 by omega]
  have h1 : lo / 2 ^ (64 - s) < 2 ^ s := by
    rw [Nat.div_lt_iff_lt_mul (Nat.two_pow_pos _), Nat.mul_comm, ← e]; exact hlo
  refine ⟨h1, ?_⟩
  have h2 : lo * 2 ^ s / 18446744073709551616 = lo / 2 ^ (64 - s) := by
    conv => lhs; rw [e]
    exact Nat.mul_div_mul_right _ _ (Nat.two_pow_pos _)
  have h3 := Nat.div_add_mod (lo * 2 ^ s) 18446744073709551616
  rw [h2] at h3
  rw [Nat.add_mul, Nat.add_mul, Nat.mul_right_comm]
  generalize lo * 2 ^ s = p at *
  omega
theorem or_shift {hi x s : Nat} (h : x < 2 ^ s) : (hi * 2 ^ s) ||| x = hi * 2 ^ s + x := by
  rw [Nat.mul_comm, ← Nat.two_pow_add_eq_or_of_lt h]
theorem shift_lt {N H L y s : Nat} (hN : N < y * 18446744073709551616) (e : N * 2 ^ s = H * 18446744073709551616 + L) : H < y * 2 ^ s := by
  have h1 : N * 2 ^ s < y * 18446744073709551616 * 2 ^ s := Nat.mul_lt_mul_of_pos_right hN (Nat.two_pow_pos _)
  rw [e, Nat.mul_right_comm] at h1
  generalize y * 2 ^ s = p at *
  omega
end Go.VM
namespace Go.VM
theorem sub_mod64 {p n : Nat} (h : p ≤ n) (hn : n < 18446744073709551616) : (n + (18446744073709551616 - p % 18446744073709551616 % 18446744073709551616)) % 18446744073709551616 = n - p := by omega
theorem dec_mod64 {q : Nat} (h : 0 < q) (hq : q < 18446744073709551616) : (q + (18446744073709551616 - 1 % 18446744073709551616)) % 18446744073709551616 = q - 1 := by omega
theorem kd_fit {q v0 : Nat} (hq : q ≤ 4294967297) (h0 : v0 < 4294967296) : q * v0 < 18446744073709551616 := by
  have : q * v0 ≤ 4294967297 * 4294967295 := Nat.mul_le_mul hq (by omega)
  omega
theorem kd_next {q v1 r n : Nat} (hq : 0 < q) (he : q * v1 + r = n) : (q - 1) * v1 + (r + v1) = n := by
  obtain ⟨k, rfl⟩ : ∃ k, q = k + 1 := ⟨q - 1, by omega⟩
  rw [Nat.add_sub_cancel]
  rw [Nat.add_mul, Nat.one_mul] at he
  omega
end Go.VM
namespace Go.VM
theorem two_lt {Q T : Nat} (h : Q < 4294967296) (h' : T < 4294967296) : Q * 4294967296 + T < 18446744073709551616 ∧ Q * 4294967296 < 18446744073709551616 := by omega
end Go.VM
namespace Go.VM
/-! ### rows that are filled from above -/
theorem set_top (w : List Nat) (k v : Nat) : (List.replicate (k + 1) 0 ++ w).set k v = List.replicate k 0 ++ (v :: w) := by
  rw [List.set_append_left _ _ (by simp), List.replicate_succ', List.set_append_right _ _ (by simp)]
  simp
theorem thr_step {b q r x d Y W rest : Nat} (h : W * d + rest = Y) (hq : q * d + r = rest * b + x) : (q + b * W) * d + r = x + b * Y := by
  rw [Nat.add_mul, Nat.mul_assoc, ← h, Nat.mul_add, Nat.mul_comm b rest]
  omega
theorem dig_lt {b r x d : Nat} (hr : r < d) (hx : x < b) : (r * b + x) / d < b := by
  rw [Nat.div_lt_iff_lt_mul (by omega)]
  have : (r + 1) * b ≤ d * b := Nat.mul_le_mul_right _ hr
  rw [Nat.add_mul, Nat.one_mul] at this
  rw [Nat.mul_comm b d]
  omega
theorem div_mod_of {W d rest Y : Nat} (h : W * d + rest = Y) (hr : rest < d) : Y / d = W ∧ Y % d = rest := by
  rw [← h, Nat.mul_comm]
  refine ⟨?_, ?_⟩
  · rw [Nat.mul_add_div (by omega), Nat.div_eq_of_lt hr, Nat.add_zero]
  · rw [Nat.mul_add_mod, Nat.mod_eq_of_lt hr]
/-! ### a shift to the left by less than a limb -/
theorem shl_parts {x s : Nat} (hs : s < 64) (hx : x < 18446744073709551616) : x * 2 ^ s = x * 2 ^ s % 18446744073709551616 + 18446744073709551616 * (x / 2 / 2 ^ (63 - s)) ∧ x / 2 / 2 ^ (63 - s) < 2 ^ s ∧ x * 2 ^ s % 18446744073709551616 = x % 2 ^ (64 - s) * 2 ^ s := by
  have e : (18446744073709551616 : Nat) = 2 ^ (64 - s) * 2 ^ s := by rw [← Nat.pow_add, show 64 - s + s = 64 by omega]
  have e2 : x / 2 / 2 ^ (63 - s) = x / 2 ^ (64 - s) := by
    rw [Nat.div_div_eq_div_mul, show 64 - s = (63 - s) + 1 by omega, Nat.pow_succ, Nat.mul_comm]
  have e3 : x * 2 ^ s % 18446744073709551616 = x % 2 ^ (64 - s) * 2 ^ s := by
    conv => lhs; rw [e]
    exact Nat.mul_mod_mul_right _ _ _
  refine ⟨?_, ?_, e3⟩
  · rw [e3, e2]
    have h := Nat.mod_add_div x (2 ^ (64 - s))
    have h2 : (x % 2 ^ (64 - s) + 2 ^ (64 - s) * (x / 2 ^ (64 - s))) * 2 ^ s = x * 2 ^ s := by rw [h]
    rw [Nat.add_mul, Nat.mul_right_comm, ← e] at h2
    exact h2.symm
  · rw [e2, Nat.div_lt_iff_lt_mul (Nat.two_pow_pos _), Nat.mul_comm, ← e]; exact hx
theorem or_top {x s top : Nat} (hs : s < 64) (hx : x < 18446744073709551616) (ht : top < 2 ^ s) : top ||| (x * 2 ^ s % 18446744073709551616) = top + x * 2 ^ s % 18446744073709551616 ∧ top + x * 2 ^ s % 18446744073709551616 < 18446744073709551616 := by
  obtain ⟨_, _, e3⟩ := shl_parts hs hx
  rw [e3, Nat.or_comm, or_shift ht, Nat.add_comm]
  refine ⟨rfl, ?_⟩
  have e : (18446744073709551616 : Nat) = 2 ^ (64 - s) * 2 ^ s := by rw [← Nat.pow_add, show 64 - s + s = 64 by omega]
  rw [e]
  have h : x % 2 ^ (64 - s) + 1 ≤ 2 ^ (64 - s) := Nat.mod_lt _ (Nat.two_pow_pos _)
  have h2 := Nat.mul_le_mul_right (2 ^ s) h
  rw [Nat.add_mul, Nat.one_mul] at h2
  omega
theorem shl_step {b i x top lo hi A P : Nat} {w : List Nat} (hw : w.length = i) (h : val b (w ++ [top]) = A) (hx : x * P = lo + b * hi) :
    val b ((w ++ [top + lo]) ++ [hi]) = A + b ^ i * (x * P) := by
  rw [← h, hx, val_append, val_append, val_append]
  simp only [val, List.length_append, List.length_cons, List.length_nil, hw, Nat.mul_zero, Nat.add_zero, Nat.zero_add]
  rw [Nat.mul_add, Nat.mul_add, Nat.pow_succ, Nat.mul_assoc]
  omega
end Go.VM
namespace Go.VM
theorem bl_mul_pow {x n : Nat} (h : 0 < x) : bl (x * 2 ^ n) = bl x + n := by
  have := bl_top (k := n) (r := 0) h (Nat.two_pow_pos n)
  rw [Nat.zero_add, Nat.mul_comm] at this
  omega
theorem set_at (l m : List Nat) (x v : Nat) : (l ++ x :: m).set l.length v = l ++ v :: m := by
  rw [List.set_append_right _ _ (Nat.le_refl _), Nat.sub_self, List.set_cons_zero]
theorem getD_at (l m : List Nat) (x : Nat) : (l ++ x :: m).getD l.length 0 = x := by simp
theorem val_zeros (b k : Nat) (l : List Nat) : val b (List.replicate k 0 ++ l) = b ^ k * val b l := by
  rw [val_append, val_replicate, List.length_replicate, Nat.zero_add]
end Go.VM
namespace Go.VM
theorem digs_len_bl {m k : Nat} (h : bl m ≤ 64 * k) : (digs 18446744073709551616 m).length ≤ k := by
  refine digs_len (by decide) ?_
  rw [pow64]
  exact lt_of_bl h
theorem pow_half (A n i : Nat) : A ^ (n / 2 ^ i) = A ^ (n / 2 ^ (i + 1)) * A ^ (n / 2 ^ (i + 1)) * (if n / 2 ^ i % 2 = 1 then A else 1) := by
  have e : n / 2 ^ i = n / 2 ^ (i + 1) + n / 2 ^ (i + 1) + n / 2 ^ i % 2 := by
    rw [Nat.pow_succ, ← Nat.div_div_eq_div_mul]; omega
  conv => lhs; rw [e]
  rw [Nat.pow_add, Nat.pow_add]
  have : n / 2 ^ i % 2 = 0 ∨ n / 2 ^ i % 2 = 1 := by omega
  rcases this with h | h <;> rw [h] <;> simp
theorem pow_le_of {A m n : Nat} (hA : 0 < A) (h : m ≤ n) : A ^ m ≤ A ^ n := Nat.pow_le_pow_right hA h
theorem bl_pow_low {A n : Nat} (hA : 0 < A) : (bl A - 1) * n + 1 ≤ bl (A ^ n) := by
  have h1 := Nat.pow_le_pow_left (le_of_bl hA) n
  rw [← Nat.pow_mul] at h1
  rcases Nat.lt_or_ge (bl (A ^ n)) ((bl A - 1) * n + 1) with g | g
  · have := lt_of_bl (show bl (A ^ n) ≤ (bl A - 1) * n by omega)
    omega
  · exact g
/-- a row shifted down by less than a limb, limb by limb -/
theorem down_limb {x y s : Nat} (hs : s < 64) (hx : x < 18446744073709551616) : (x / 2 ^ s) ||| (y * 2 % 18446744073709551616 * 2 ^ (63 - s) % 18446744073709551616) = x / 2 ^ s + (y % 2 ^ s) * 2 ^ (64 - s) ∧ x / 2 ^ s + (y % 2 ^ s) * 2 ^ (64 - s) < 18446744073709551616 := by
  have hp : (18446744073709551616 : Nat) = 2 ^ s * 2 ^ (64 - s) := by rw [← Nat.pow_add, show s + (64 - s) = 64 by omega]
  have h1 : x / 2 ^ s < 2 ^ (64 - s) := by
    rw [Nat.div_lt_iff_lt_mul (Nat.two_pow_pos s), Nat.mul_comm, ← hp]; exact hx
  have h2 : y * 2 % 18446744073709551616 * 2 ^ (63 - s) % 18446744073709551616 = (y % 2 ^ s) * 2 ^ (64 - s) := by
    rw [Nat.mod_mul_mod, Nat.mul_assoc, Nat.mul_comm 2, show 2 ^ (63 - s) * 2 = 2 ^ (64 - s) by rw [← Nat.pow_succ, show (63 - s).succ = 64 - s by omega]]
    conv => lhs; rw [hp]
    rw [Nat.mul_mod_mul_right]
  have h3 : y % 2 ^ s < 2 ^ s := Nat.mod_lt _ (Nat.two_pow_pos s)
  rw [h2, Nat.or_comm, or_shift h1]
  have h4 : (y % 2 ^ s + 1) * 2 ^ (64 - s) ≤ 2 ^ s * 2 ^ (64 - s) := Nat.mul_le_mul_right _ h3
  rw [← hp, Nat.add_mul, Nat.one_mul] at h4
  omega
theorem down_step {b i s x y W A P : Nat} {w : List Nat} {r0 : Nat} (hw : w.length = i) (h : val b w * 2 ^ s + r0 = A + b ^ i * (x % 2 ^ s)) (hb : b = 2 ^ s * P) (hW : W = x / 2 ^ s + (y % 2 ^ s) * P) :
    val b (w ++ [W]) * 2 ^ s + r0 = (A + b ^ i * x) + b ^ (i + 1) * (y % 2 ^ s) := by
  have e1 : 2 ^ s * (x / 2 ^ s) + x % 2 ^ s = x := Nat.div_add_mod x (2 ^ s)
  have e2 : b ^ (i + 1) * (y % 2 ^ s) = b ^ i * (2 ^ s * ((y % 2 ^ s) * P)) := by
    rw [Nat.pow_succ, Nat.mul_assoc]; congr 1; rw [hb]; ac_rfl
  have e3 : val b (w ++ [W]) * 2 ^ s = val b w * 2 ^ s + b ^ i * (2 ^ s * (x / 2 ^ s)) + b ^ i * (2 ^ s * ((y % 2 ^ s) * P)) := by
    rw [val_append, hw, val, val, Nat.mul_zero, Nat.add_zero, hW, Nat.add_mul, Nat.mul_add, Nat.add_mul]
    rw [Nat.add_assoc]
    congr 1
    congr 1
    · ac_rfl
    · ac_rfl
  rw [e3, e2]
  have e4 : b ^ i * x = b ^ i * (2 ^ s * (x / 2 ^ s)) + b ^ i * (x % 2 ^ s) := by rw [← Nat.mul_add, e1]
  rw [e4]
  omega
end Go.VM
