import Derived.Test.YtladcfeibpddeabDivL
set_option linter.unusedVariables false
set_option maxRecDepth 20000
namespace Go.VM
/-! ### a quotient's limb out of the top ones (Knuth's D) -/
section
variable {B m T lowU W lowV U V q : Nat}
theorem est_top (hU : U = lowU + B ^ m * T) (hlU : lowU < B ^ m) (hV : V = lowV + B ^ m * W) (hW : 0 < W) : U / V ≤ T / W := by
  rw [Nat.le_div_iff_mul_le hW]
  have h1 : U / V * V ≤ U := Nat.div_mul_le_self U V
  have h2 : B ^ m * (U / V * W) ≤ U / V * V := by rw [hV, Nat.mul_add, Nat.mul_left_comm]; omega
  have h3 : B ^ m * (U / V * W) < B ^ m * (T + 1) := by rw [Nat.mul_add, Nat.mul_one]; omega
  exact Nat.le_of_lt_succ (Nat.lt_of_mul_lt_mul_left h3)
theorem est_low (hU : U = lowU + B ^ m * T) (hV : V = lowV + B ^ m * W) (hlV : lowV < B ^ m) (hq : q * W ≤ T) (hqB : q ≤ B) (hBW : B ≤ W) (hV0 : 0 < V) : q ≤ U / V + 1 := by
  have h1 : q * lowV ≤ B ^ m * W := by
    have : q * lowV ≤ W * B ^ m := Nat.mul_le_mul (by omega) (Nat.le_of_lt hlV)
    rw [Nat.mul_comm] at this ⊢
    rw [Nat.mul_comm (B ^ m)]
    exact this
  have h2 : q * V = q * lowV + B ^ m * (q * W) := by rw [hV, Nat.mul_add, Nat.mul_left_comm]
  have h3 : B ^ m * (q * W) ≤ B ^ m * T := Nat.mul_le_mul_left _ hq
  have h4 : q * V ≤ U + V := by rw [h2]; omega
  rcases Nat.eq_zero_or_pos q with h | h
  · rw [h]; exact Nat.zero_le _
  · have h5 : (q - 1) * V ≤ U := by rw [Nat.sub_mul, Nat.one_mul]; omega
    have h6 := (Nat.le_div_iff_mul_le hV0).2 h5
    omega
end
theorem val_two {b m : Nat} {l : List Nat} (h : l.length = m + 2) : val b l = val b (l.take m) + b ^ m * (l.getD m 0 + b * l.getD (m + 1) 0) := by
  rw [val_take_drop b m l (by omega), drop_cons (i := m) (by omega), val, drop_cons (i := m + 1) (by omega), val, List.drop_of_length_le (by omega)]
  simp [val]
theorem val_three {b m : Nat} {l : List Nat} (h : l.length = m + 3) : val b l = val b (l.take m) + b ^ m * (l.getD m 0 + b * (l.getD (m + 1) 0 + b * l.getD (m + 2) 0)) := by
  rw [val_take_drop b m l (by omega), drop_cons (i := m) (by omega), val, drop_cons (i := m + 1) (by omega), val, drop_cons (i := m + 2) (by omega), val, List.drop_of_length_le (by omega)]
  simp [val]
theorem take_lt {b m : Nat} {l : List Nat} (h : Lim b l) (hm : m ≤ l.length) : val b (l.take m) < b ^ m := by
  have := val_lt (h.take (k := m))
  rwa [List.length_take, Nat.min_eq_left hm] at this
/-- the top limb of what is less than v times the base -/
theorem top_le {b n : Nat} {u v : List Nat} (hb : 0 < b) (hu : u.length = n + 1) (hv : v.length = n) (hn : 0 < n) (hlv : Lim b v) (h : val b u < val b v * b) : u.getD n 0 ≤ v.getD (n - 1) 0 := by
  have h1 : val b u = val b (u.take n) + b ^ n * u.getD n 0 := by rw [← val_take' b u n, List.take_of_length_le (by omega)]
  have h2 : val b v = val b (v.take (n - 1)) + b ^ (n - 1) * v.getD (n - 1) 0 := by
    have := val_take' b v (n - 1)
    rw [show n - 1 + 1 = n by omega, List.take_of_length_le (by omega)] at this
    exact this
  have h3 := take_lt (m := n - 1) hlv (by omega)
  have h4 : val b v < b ^ (n - 1) * (v.getD (n - 1) 0 + 1) := by rw [Nat.mul_add]; omega
  have h5 : val b v * b ≤ b ^ n * (v.getD (n - 1) 0 + 1) := by
    have e : b ^ n = b ^ (n - 1) * b := by rw [← Nat.pow_succ, show (n - 1).succ = n by omega]
    rw [e, Nat.mul_right_comm]
    exact Nat.mul_le_mul_right b (Nat.le_of_lt h4)
  have h6 : b ^ n * u.getD n 0 < b ^ n * (v.getD (n - 1) 0 + 1) := by omega
  have := Nat.lt_of_mul_lt_mul_left h6
  omega
/-- one limb of u - q v -/
theorem msub_step {b i q x y c c' bo bo' s d : Nat} {w : List Nat} {A P : Nat} (hw : w.length = i) (h : val b w + P * q = A + b ^ i * (c + bo)) (hs : x * q + c = s + b * c') (hd : d + s + bo = y + b * bo') :
    val b (w ++ [d]) + (P + b ^ i * x) * q = (A + b ^ i * y) + b ^ (i + 1) * (c' + bo') := by
  rw [val_append, hw, val, val, Nat.mul_zero, Nat.add_zero, Nat.add_mul, Nat.pow_succ]
  have e1 : b ^ i * x * q + b ^ i * c = b ^ i * s + b ^ i * b * c' := by rw [Nat.mul_assoc, Nat.mul_assoc, ← Nat.mul_add, ← Nat.mul_add, hs]
  have e2 : b ^ i * d + b ^ i * s + b ^ i * bo = b ^ i * y + b ^ i * b * bo' := by rw [Nat.mul_assoc, ← Nat.mul_add, ← Nat.mul_add, ← Nat.mul_add, hd]
  rw [Nat.mul_add] at h
  rw [Nat.mul_add]
  omega
/-- one limb of u + v -/
theorem addb_step {b i x y c c' d : Nat} {w : List Nat} {A P : Nat} (hw : w.length = i) (h : val b w + b ^ i * c = A + P) (hd : d + b * c' = y + x + c) :
    val b (w ++ [d]) + b ^ (i + 1) * c' = (A + b ^ i * y) + (P + b ^ i * x) := by
  rw [val_append, hw, val, val, Nat.mul_zero, Nat.add_zero, Nat.pow_succ]
  have e : b ^ i * d + b ^ i * b * c' = b ^ i * y + b ^ i * x + b ^ i * c := by rw [Nat.mul_assoc, ← Nat.mul_add, hd, Nat.mul_add, Nat.mul_add]
  omega
theorem getD_mid (A u C : List Nat) (i : Nat) (h : i < u.length) : ((A ++ u) ++ C).getD (A.length + i) 0 = u.getD i 0 := by
  rw [getD_append_left (by simp; omega), List.getD_eq_getElem?_getD, List.getD_eq_getElem?_getD, List.getElem?_append_right (by omega)]
  simp
theorem set_mid (A u C : List Nat) (i x : Nat) (h : i < u.length) : ((A ++ u) ++ C).set (A.length + i) x = (A ++ u.set i x) ++ C := by
  rw [List.set_append_left _ _ (by simp; omega), List.set_append_right _ _ (by omega)]
  simp
theorem getD_snoc_drop {w u : List Nat} {i : Nat} (hw : w.length = i) (hi : i < u.length) : (w ++ u.drop i).getD i 0 = u.getD i 0 := by
  rw [drop_cons hi, ← hw]
  exact getD_at _ _ _
theorem set_snoc_drop {w u : List Nat} {i : Nat} (hw : w.length = i) (hi : i < u.length) (x : Nat) : (w ++ u.drop i).set i x = (w ++ [x]) ++ u.drop (i + 1) := by
  rw [drop_cons hi]
  conv => lhs; rw [← hw]
  rw [set_at, hw]; simp
/-- the limb is right, or one too great -/
theorem knuth_end {b n q U V W bo : Nat} (hV : 0 < V) (h : W + V * q = U + b ^ (n + 1) * bo) (hW : W < b ^ (n + 1)) (hU : U < b ^ (n + 1)) (h1 : U / V ≤ q) (h2 : q ≤ U / V + 1) (hbo : bo ≤ 1) :
    (bo = 0 → q = U / V ∧ W = U % V) ∧ (bo ≠ 0 → q = U / V + 1 ∧ W + V = U % V + b ^ (n + 1)) := by
  have e := Nat.div_add_mod U V
  have hm := Nat.mod_lt U hV
  constructor
  · rintro rfl
    rw [Nat.mul_zero, Nat.add_zero] at h
    rcases Nat.lt_or_ge (U / V) q with g | g
    · have : V * (U / V + 1) ≤ V * q := Nat.mul_le_mul_left _ g
      rw [Nat.mul_add, Nat.mul_one] at this
      omega
    · have hq : q = U / V := by omega
      rw [hq] at h
      exact ⟨hq, by omega⟩
  · intro hne
    have : bo = 1 := by omega
    subst this
    rw [Nat.mul_one] at h
    rcases Nat.lt_or_ge (U / V) q with g | g
    · have hq : q = U / V + 1 := by omega
      rw [hq, Nat.mul_add, Nat.mul_one] at h
      exact ⟨hq, by omega⟩
    · have hq : q = U / V := by omega
      rw [hq] at h
      omega
end Go.VM
namespace Go.VM
theorem knuth_ok {B q vh vl r z n T W : Nat} (hT : T = z + B * n) (hW : W = vl + B * vh) (he : q * vh + r = n) (h : q * vl ≤ r * B + z) : q * W ≤ T := by
  subst hT hW he
  rw [Nat.mul_add, Nat.mul_add, Nat.mul_comm B r, Nat.mul_left_comm q B vh]
  omega
theorem knuth_no {B q vh vl r z n T W : Nat} (hT : T = z + B * n) (hW : W = vl + B * vh) (he : q * vh + r = n) (h : r * B + z < q * vl) : T < q * W := by
  subst hT hW he
  rw [Nat.mul_add, Nat.mul_add, Nat.mul_comm B r, Nat.mul_left_comm q B vh]
  omega
theorem knuth_big {B q vh vl r z n T W : Nat} (hT : T = z + B * n) (hW : W = vl + B * vh) (he : q * vh + r = n) (hq : q ≤ B) (hl : vl ≤ B) (hr : B ≤ r) : q * W ≤ T := by
  refine knuth_ok hT hW he ?_
  have h1 : q * vl ≤ B * B := Nat.mul_le_mul hq hl
  have h2 : B * B ≤ r * B := Nat.mul_le_mul_right B hr
  omega
/-- two halves against two halves -/
theorem pair_le {B p r z : Nat} (hB : 0 < B) (hz : z < B) : p ≤ r * B + z ↔ p / B < r ∨ (p / B = r ∧ p % B ≤ z) := by
  have e := Nat.div_add_mod p B
  have hm := Nat.mod_lt p hB
  rw [Nat.mul_comm] at e
  constructor
  · intro h
    rcases Nat.lt_trichotomy (p / B) r with g | g | g
    · exact .inl g
    · subst g; exact .inr ⟨rfl, by omega⟩
    · have : (r + 1) * B ≤ p / B * B := Nat.mul_le_mul_right B g
      rw [Nat.add_mul, Nat.one_mul] at this
      omega
  · rintro (g | ⟨g, h⟩)
    · have : (p / B + 1) * B ≤ r * B := Nat.mul_le_mul_right B g
      rw [Nat.add_mul, Nat.one_mul] at this
      omega
    · subst g; omega
end Go.VM
namespace Go.VM
/-- a row whose value lies below its top place -/
theorem top_zero {b n : Nat} {u : List Nat} (hb : 0 < b) (hn : u.length = n + 1) (h : val b u < b ^ n) : u = u.take n ++ [0] := by
  have e : u = u.take n ++ [u.getD n 0] := by
    rw [← take_snoc (by omega), List.take_of_length_le (by omega)]
  have h1 : val b u = val b (u.take n) + b ^ n * u.getD n 0 := by rw [← val_take' b u n, List.take_of_length_le (by omega)]
  have h2 : u.getD n 0 = 0 := by
    rcases Nat.eq_zero_or_pos (u.getD n 0) with h | g
    · exact h
    · have : b ^ n * 1 ≤ b ^ n * u.getD n 0 := Nat.mul_le_mul_left _ g
      omega
  rw [h2] at e
  exact e
theorem digs_top {b y m : Nat} (hb : 2 ≤ b) (h : (digs b y).length = m + 1) : (digs b y).getD m 0 ≠ 0 ∧ y = val b ((digs b y).take m) + b ^ m * (digs b y).getD m 0 := by
  have hv := val_digs hb y
  have h1 : val b (digs b y) = val b ((digs b y).take m) + b ^ m * (digs b y).getD m 0 := by rw [← val_take' b _ m, List.take_of_length_le (by omega)]
  refine ⟨fun e => ?_, by omega⟩
  have hlow := take_lt (m := m) (lim_digs hb y) (by omega)
  rw [e, Nat.mul_zero, Nat.add_zero] at h1
  have := digs_len hb (n := y) (k := m) (by omega)
  omega
/-- shifted so far that its top bit is set -/
theorem norm_val {y m s : Nat} (h : (digs 18446744073709551616 y).length = m + 1) (hs : s = 64 - bl ((digs 18446744073709551616 y).getD m 0)) :
    s < 64 ∧ y * 2 ^ s < 18446744073709551616 ^ (m + 1) ∧ 18446744073709551616 ^ m * 9223372036854775808 ≤ y * 2 ^ s := by
  obtain ⟨h0, hy⟩ := digs_top (b := 18446744073709551616) (by decide) h
  have htl := (lim_digs (b := 18446744073709551616) (by decide) y).getD (i := m) (by decide)
  have hlow := take_lt (m := m) (lim_digs (b := 18446744073709551616) (by decide) y) (by omega)
  generalize (digs 18446744073709551616 y).getD m 0 = tp at *
  obtain ⟨n1, n2⟩ := norm_shift (y := tp) (by omega) htl
  have hbp := bl_pos (n := tp) (by omega)
  rw [← hs] at n1 n2
  refine ⟨by omega, ?_, ?_⟩
  · have h1 : y < 18446744073709551616 ^ m * (tp + 1) := by rw [Nat.mul_add]; omega
    have h3 : (tp + 1) * 2 ^ s ≤ 18446744073709551616 := by
      have hbl : tp + 1 ≤ 2 ^ bl tp := lt_bl tp
      have h4 : (tp + 1) * 2 ^ s ≤ 2 ^ bl tp * 2 ^ s := Nat.mul_le_mul_right _ hbl
      rw [← Nat.pow_add, hs, show bl tp + (64 - bl tp) = 64 by have := bl_le (n := tp) (k := 64) htl; omega] at h4
      rw [hs]; exact h4
    have h5 : y * 2 ^ s < 18446744073709551616 ^ m * (tp + 1) * 2 ^ s := Nat.mul_lt_mul_of_pos_right h1 (Nat.two_pow_pos s)
    rw [Nat.mul_assoc] at h5
    rw [Nat.pow_succ]
    exact Nat.lt_of_lt_of_le h5 (Nat.mul_le_mul_left _ h3)
  · have h1 : 18446744073709551616 ^ m * tp ≤ y := by omega
    have h2 : 18446744073709551616 ^ m * tp * 2 ^ s ≤ y * 2 ^ s := Nat.mul_le_mul_right _ h1
    rw [Nat.mul_assoc] at h2
    exact Nat.le_trans (Nat.mul_le_mul_left _ n2) h2
/-- the top limb, once the value is great enough -/
theorem top_ge {b n k : Nat} {v : List Nat} (hb : 0 < b) (hv : Lim b v) (hn : v.length = n + 1) (h : b ^ n * k ≤ val b v) : k ≤ v.getD n 0 := by
  have h1 : val b v = val b (v.take n) + b ^ n * v.getD n 0 := by rw [← val_take' b v n, List.take_of_length_le (by omega)]
  have h2 := take_lt (m := n) hv (by omega)
  have h3 : b ^ n * k < b ^ n * (v.getD n 0 + 1) := by rw [Nat.mul_add]; omega
  have := Nat.lt_of_mul_lt_mul_left h3
  omega
theorem shift_div {x y s : Nat} : x * 2 ^ s / (y * 2 ^ s) = x / y ∧ x * 2 ^ s % (y * 2 ^ s) = x % y * 2 ^ s := ⟨Nat.mul_div_mul_right _ _ (Nat.two_pow_pos s), Nat.mul_mod_mul_right _ _ _⟩
/-- the rest of the upper limbs, before the first guess -/
theorem first_rest {x y s N n : Nat} {lu : List Nat} (hlu : Lim 18446744073709551616 lu) (hl : lu.length = N + 1) (hv : val 18446744073709551616 lu = x * 2 ^ s) (hx : x < 18446744073709551616 ^ N) (hn : 0 < n) (hnN : n ≤ N) (hy : 18446744073709551616 ^ (n - 1) ≤ y) :
    val 18446744073709551616 (lu.drop (N - n + 1)) < y * 2 ^ s := by
  have h1 := val_take_drop 18446744073709551616 (N - n + 1) lu (by omega)
  have h2 : 18446744073709551616 ^ (N - n + 1) * val 18446744073709551616 (lu.drop (N - n + 1)) < 18446744073709551616 ^ (N - n + 1) * (18446744073709551616 ^ (n - 1) * 2 ^ s) := by
    rw [← Nat.mul_assoc, ← Nat.pow_add, show N - n + 1 + (n - 1) = N by omega]
    have : x * 2 ^ s < 18446744073709551616 ^ N * 2 ^ s := Nat.mul_lt_mul_of_pos_right hx (Nat.two_pow_pos s)
    omega
  have h3 := Nat.lt_of_mul_lt_mul_left h2
  exact Nat.lt_of_lt_of_le h3 (Nat.mul_le_mul_right _ hy)
end Go.VM
namespace Go.VM
theorem back_end {vw P cc R : Nat} (h : vw + P * cc = R + P) (hlt : vw < P) (hc : cc = 0 ∨ cc = 1) : vw = R := by
  rcases hc with rfl | rfl
  · rw [Nat.mul_zero, Nat.add_zero] at h; omega
  · rw [Nat.mul_one] at h; omega
end Go.VM
namespace Go.VM
theorem add_last {b i y c V : Nat} {w2 Wl : List Nat} (hw : w2.length = i) (h : val b w2 + b ^ i * c = val b (Wl.take i) + V) (hl : val b Wl = val b (Wl.take i) + b ^ i * y) :
    val b (w2 ++ [(y + c) % b]) + b ^ (i + 1) * ((y + c) / b) = val b Wl + V := by
  have hd := Nat.mod_add_div (y + c) b
  have key := addb_step (b := b) (i := i) (x := 0) (y := y) (c := c) (c' := (y + c) / b) (d := (y + c) % b) (A := val b (Wl.take i)) (P := V) hw h (by omega)
  rw [Nat.mul_zero, Nat.add_zero] at key
  rw [hl]
  exact key
end Go.VM
