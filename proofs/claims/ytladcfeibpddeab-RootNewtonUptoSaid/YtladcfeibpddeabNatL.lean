set_option linter.unusedVariables false
namespace Go.VM

/-! ### numbers as rows of digits, the least first -/
def val (b : Nat) : List Nat → Nat
  | [] => 0
  | x :: l => x + b * val b l
def Lim (b : Nat) (l : List Nat) : Prop := ∀ x, x ∈ l → x < b
def digsF (b : Nat) : Nat → Nat → List Nat
  | 0, _ => []
  | f + 1, n => if n = 0 then [] else n % b :: digsF b f (n / b)
def digs (b n : Nat) : List Nat := digsF b n n

theorem Lim.nil {b : Nat} : Lim b [] := fun _ h => by cases h
theorem Lim.cons {b x : Nat} {l : List Nat} (h : x < b) (hl : Lim b l) : Lim b (x :: l) := fun y hy => by
  rcases List.mem_cons.1 hy with rfl | hy
  · exact h
  · exact hl y hy
theorem Lim.head {b x : Nat} {l : List Nat} (h : Lim b (x :: l)) : x < b := h x (by simp)
theorem Lim.tail {b x : Nat} {l : List Nat} (h : Lim b (x :: l)) : Lim b l := fun y hy => h y (by simp [hy])
theorem Lim.append {b : Nat} {l m : List Nat} (h : Lim b l) (h' : Lim b m) : Lim b (l ++ m) := fun y hy => by
  rcases List.mem_append.1 hy with hy | hy
  · exact h y hy
  · exact h' y hy
theorem Lim.left {b : Nat} {l m : List Nat} (h : Lim b (l ++ m)) : Lim b l := fun y hy => h y (by simp [hy])
theorem Lim.right {b : Nat} {l m : List Nat} (h : Lim b (l ++ m)) : Lim b m := fun y hy => h y (by simp [hy])
theorem Lim.take {b k : Nat} {l : List Nat} (h : Lim b l) : Lim b (l.take k) := fun y hy => h y (List.mem_of_mem_take hy)
theorem Lim.drop {b k : Nat} {l : List Nat} (h : Lim b l) : Lim b (l.drop k) := fun y hy => h y (List.mem_of_mem_drop hy)
theorem Lim.set {b i x : Nat} {l : List Nat} (h : Lim b l) (hx : x < b) : Lim b (l.set i x) := fun y hy => by
  rcases List.mem_or_eq_of_mem_set hy with hy | rfl
  · exact h y hy
  · exact hx
theorem Lim.replicate {b k : Nat} (hb : 0 < b) : Lim b (List.replicate k 0) := fun y hy => by
  rw [List.eq_of_mem_replicate hy]; exact hb
theorem Lim.getD {b i : Nat} {l : List Nat} (h : Lim b l) (hb : 0 < b) : l.getD i 0 < b := by
  by_cases hi : i < l.length
  · rw [List.getD_eq_getElem?_getD, List.getElem?_eq_getElem hi]; exact h _ (List.getElem_mem hi)
  · rw [List.getD_eq_getElem?_getD, List.getElem?_eq_none (by omega)]; exact hb

theorem val_nil (b : Nat) : val b [] = 0 := rfl
theorem val_cons (b x : Nat) (l : List Nat) : val b (x :: l) = x + b * val b l := rfl
theorem val_append (b : Nat) (l m : List Nat) : val b (l ++ m) = val b l + b ^ l.length * val b m := by
  induction l with
  | nil => simp [val]
  | cons x l ih =>
    simp only [List.cons_append, val, ih, List.length_cons, Nat.pow_succ]
    rw [Nat.mul_add, Nat.add_assoc, ← Nat.mul_assoc, Nat.mul_comm b (b ^ l.length)]
theorem val_lt {b : Nat} {l : List Nat} (h : Lim b l) : val b l < b ^ l.length := by
  induction l with
  | nil => simp [val]
  | cons x l ih =>
    have h1 := ih h.tail
    have h2 := h.head
    simp only [val, List.length_cons, Nat.pow_succ]
    calc x + b * val b l < b + b * val b l := by omega
      _ = b * (val b l + 1) := by rw [Nat.mul_add, Nat.mul_one, Nat.add_comm]
      _ ≤ b * b ^ l.length := Nat.mul_le_mul_left _ h1
      _ = b ^ l.length * b := Nat.mul_comm _ _
theorem val_replicate (b k : Nat) : val b (List.replicate k 0) = 0 := by
  induction k with
  | zero => rfl
  | succ k ih => simp [List.replicate_succ, val, ih]
theorem val_take_drop (b k : Nat) (l : List Nat) (h : k ≤ l.length) : val b l = val b (l.take k) + b ^ k * val b (l.drop k) := by
  have := val_append b (l.take k) (l.drop k)
  rw [List.take_append_drop, List.length_take, Nat.min_eq_left h] at this
  exact this
theorem val_set (b i x : Nat) (l : List Nat) (h : i < l.length) : val b (l.set i x) + b ^ i * l.getD i 0 = val b l + b ^ i * x := by
  induction l generalizing i with
  | nil => simp at h
  | cons y l ih =>
    cases i with
    | zero => simp [val]; omega
    | succ i =>
      have := ih i (by simpa using h)
      simp only [List.set_cons_succ, val, List.getD_cons_succ, Nat.pow_succ]
      have e : ∀ z : Nat, b ^ i * b * z = b * (b ^ i * z) := fun z => by rw [Nat.mul_comm (b ^ i) b, Nat.mul_assoc]
      rw [e, e, Nat.add_assoc, Nat.add_assoc, ← Nat.mul_add, ← Nat.mul_add, this]

/-! ### the normal digits -/
theorem digsF_stable {b : Nat} (hb : 2 ≤ b) : ∀ (f g n : Nat), n ≤ f → n ≤ g → digsF b f n = digsF b g n
  | 0, 0, n, _, _ => rfl
  | 0, g + 1, n, h, _ => by
    have : n = 0 := by omega
    subst this; simp [digsF]
  | f + 1, 0, n, _, h => by
    have : n = 0 := by omega
    subst this; simp [digsF]
  | f + 1, g + 1, n, h1, h2 => by
    simp only [digsF]
    by_cases h : n = 0
    · simp [h]
    · have : n / b < n := Nat.div_lt_self (by omega) hb
      simp only [h, if_false]
      rw [digsF_stable hb f g (n / b) (by omega) (by omega)]
theorem digs_zero (b : Nat) : digs b 0 = [] := rfl
theorem digs_pos {b n : Nat} (hb : 2 ≤ b) (h : 0 < n) : digs b n = n % b :: digs b (n / b) := by
  unfold digs
  obtain ⟨m, rfl⟩ : ∃ m, n = m + 1 := ⟨n - 1, by omega⟩
  have h2 : (m + 1) / b < m + 1 := Nat.div_lt_self h hb
  conv => lhs; unfold digsF
  rw [if_neg (by omega), digsF_stable hb m ((m + 1) / b) _ (by omega) (by omega)]
theorem val_digs {b : Nat} (hb : 2 ≤ b) (n : Nat) : val b (digs b n) = n := by
  induction n using Nat.strongRecOn with
  | _ n ih =>
    by_cases h : n = 0
    · subst h; rfl
    · rw [digs_pos hb (by omega)]
      simp only [val]
      rw [ih (n / b) (Nat.div_lt_self (by omega) hb), Nat.mod_add_div]
theorem lim_digs {b : Nat} (hb : 2 ≤ b) (n : Nat) : Lim b (digs b n) := by
  induction n using Nat.strongRecOn with
  | _ n ih =>
    by_cases h : n = 0
    · subst h; exact .nil
    · rw [digs_pos hb (by omega)]
      exact .cons (Nat.mod_lt _ (by omega)) (ih _ (Nat.div_lt_self (by omega) hb))
/-- no nought at the top -/
def Norm (l : List Nat) : Prop := ∀ m x, l = m ++ [x] → x ≠ 0
theorem norm_nil : Norm [] := fun m x h => by simp at h
theorem norm_cons {x : Nat} {l : List Nat} (h : Norm l) (hx : l = [] → x ≠ 0) : Norm (x :: l) := by
  intro m y e
  cases m with
  | nil => simp at e; obtain ⟨rfl, rfl⟩ := e; exact hx rfl
  | cons z m => simp at e; exact h m y e.2
theorem norm_tail {x : Nat} {l : List Nat} (h : Norm (x :: l)) : Norm l := fun m y e => h (x :: m) y (by rw [e]; rfl)
theorem digs_norm {b : Nat} (hb : 2 ≤ b) (n : Nat) : Norm (digs b n) := by
  induction n using Nat.strongRecOn with
  | _ n ih =>
    by_cases h : n = 0
    · subst h; exact norm_nil
    · rw [digs_pos hb (by omega)]
      refine norm_cons (ih _ (Nat.div_lt_self (by omega) hb)) fun e h1 => ?_
      have h2 : n / b = 0 := by have := val_digs hb (n / b); rw [e] at this; exact this.symm
      have h3 := Nat.mod_add_div n b
      rw [h1, h2] at h3
      simp at h3
      omega
theorem norm_val_pos {b : Nat} (hb : 2 ≤ b) : ∀ {l : List Nat}, Norm l → l ≠ [] → 0 < val b l
  | [], _, h => absurd rfl h
  | [x], h, _ => by have := h [] x rfl; simp [val]; omega
  | x :: y :: l, h, _ => by
    have := norm_val_pos hb (norm_tail h) (by simp)
    rw [val]
    have : 0 < b * val b (y :: l) := Nat.mul_pos (by omega) this
    omega
theorem digs_val {b : Nat} (hb : 2 ≤ b) : ∀ {l : List Nat}, Lim b l → Norm l → digs b (val b l) = l
  | [], _, _ => rfl
  | x :: l, hl, hn => by
    have h1 : 0 < val b (x :: l) := norm_val_pos hb hn (by simp)
    rw [digs_pos hb h1]
    have hx := hl.head
    have e1 : val b (x :: l) % b = x := by rw [val, Nat.add_mul_mod_self_left, Nat.mod_eq_of_lt hx]
    have e2 : val b (x :: l) / b = val b l := by rw [val, Nat.add_mul_div_left _ _ (by omega), Nat.div_eq_of_lt hx, Nat.zero_add]
    rw [e1, e2, digs_val hb hl.tail (norm_tail hn)]

def trimL (l : List Nat) : List Nat := (l.reverse.dropWhile (· == 0)).reverse
theorem trimL_nil : trimL [] = [] := rfl
theorem trimL_zero (l : List Nat) : trimL (l ++ [0]) = trimL l := by simp [trimL]
theorem trimL_pos (l : List Nat) (x : Nat) (h : x ≠ 0) : trimL (l ++ [x]) = l ++ [x] := by simp [trimL, h]
theorem snoc_cases (l : List Nat) : l = [] ∨ ∃ m x, l = m ++ [x] := by
  rcases List.eq_nil_or_concat l with h | ⟨m, x, h⟩
  · exact .inl h
  · exact .inr ⟨m, x, by simpa using h⟩
theorem val_snoc0 (b : Nat) (l : List Nat) : val b (l ++ [0]) = val b l := by rw [val_append]; simp [val]
theorem norm_snoc {l : List Nat} {x : Nat} (h : x ≠ 0) : Norm (l ++ [x]) := by
  intro m y e
  have := List.append_inj_right' e rfl
  simp at this
  rw [← this]; exact h
theorem trim_digs {b : Nat} (hb : 2 ≤ b) {l : List Nat} (h : Lim b l) : trimL l = digs b (val b l) := by
  generalize hn : l.length = n
  induction n generalizing l with
  | zero =>
    have : l = [] := List.eq_nil_of_length_eq_zero hn
    subst this; rfl
  | succ n ih =>
    rcases snoc_cases l with rfl | ⟨m, x, rfl⟩
    · rfl
    · by_cases hx : x = 0
      · subst hx
        rw [trimL_zero, val_snoc0]
        exact ih h.left (by simpa using hn)
      · rw [trimL_pos _ _ hx, digs_val hb h (norm_snoc hx)]
theorem trimL_len (l : List Nat) : (trimL l).length ≤ l.length := by
  unfold trimL
  rw [List.length_reverse]
  refine Nat.le_trans ((List.dropWhile_sublist _).length_le) ?_
  simp
theorem digs_len_le {b : Nat} (hb : 2 ≤ b) {l : List Nat} (h : Lim b l) : (digs b (val b l)).length ≤ l.length := by
  rw [← trim_digs hb h]; exact trimL_len l
theorem digs_len {b : Nat} (hb : 2 ≤ b) {n k : Nat} (h : n < b ^ k) : (digs b n).length ≤ k := by
  induction k generalizing n with
  | zero =>
    have : n = 0 := by simp at h; exact h
    subst this; simp [digs_zero]
  | succ k ih =>
    by_cases h0 : n = 0
    · subst h0; simp [digs_zero]
    · rw [digs_pos hb (by omega)]
      have : n / b < b ^ k := by rw [Nat.div_lt_iff_lt_mul (by omega)]; rw [Nat.pow_succ] at h; exact h
      have := ih this
      simp; exact this
theorem digs_len_lt {b : Nat} (hb : 2 ≤ b) {n k : Nat} (h : b ^ k ≤ n) : k < (digs b n).length := by
  by_cases g : k < (digs b n).length
  · exact g
  · have h1 := val_lt (lim_digs hb n)
    rw [val_digs hb] at h1
    have h2 : b ^ (digs b n).length ≤ b ^ k := Nat.pow_le_pow_right (by omega) (by omega)
    omega
theorem digs_eq_nil {b : Nat} (hb : 2 ≤ b) {n : Nat} : digs b n = [] ↔ n = 0 := by
  constructor
  · intro h; have := val_digs hb n; rw [h] at this; exact this.symm
  · rintro rfl; rfl
theorem digs_inj {b : Nat} (hb : 2 ≤ b) {n m : Nat} (h : digs b n = digs b m) : n = m := by rw [← val_digs hb n, h, val_digs hb m]
theorem digs_len_pos {b : Nat} (hb : 2 ≤ b) {n : Nat} (h : 0 < n) : b ^ ((digs b n).length - 1) ≤ n := by
  have hn : digs b n ≠ [] := fun e => by have := (digs_eq_nil hb).1 e; omega
  rcases Nat.lt_or_ge n (b ^ ((digs b n).length - 1)) with g | g
  · have := digs_len hb g
    have : 0 < (digs b n).length := List.length_pos_iff.2 hn
    omega
  · exact g
theorem val_inj {b : Nat} (hb : 2 ≤ b) {l m : List Nat} (h1 : Lim b l) (h2 : Lim b m) (he : l.length = m.length) (h : val b l = val b m) : l = m := by
  induction l generalizing m with
  | nil => exact (List.eq_nil_of_length_eq_zero (by simpa using he.symm)).symm
  | cons x l ih =>
    cases m with
    | nil => simp at he
    | cons y m =>
      simp only [val] at h
      have hx := h1.head
      have hy := h2.head
      have e1 : x = y := by
        have := congrArg (· % b) h
        simp only [Nat.add_mul_mod_self_left, Nat.mod_eq_of_lt hx, Nat.mod_eq_of_lt hy] at this
        exact this
      subst e1
      have : val b l = val b m := by
        have := Nat.add_left_cancel h
        exact Nat.eq_of_mul_eq_mul_left (by omega) this
      rw [ih h1.tail h2.tail (by simpa using he) this]

/-! ### limb by limb from the top -/
theorem getD_lt {l : List Nat} {i : Nat} (h : i < l.length) : l.getD i 0 = l[i] := by simp [List.getD, h]
theorem drop_cons {l : List Nat} {i : Nat} (h : i < l.length) : l.drop i = l.getD i 0 :: l.drop (i + 1) := by
  rw [getD_lt h]; exact List.drop_eq_getElem_cons h
theorem take_snoc {l : List Nat} {i : Nat} (h : i < l.length) : l.take (i + 1) = l.take i ++ [l.getD i 0] := by
  rw [getD_lt h, List.take_succ_eq_append_getElem h]
theorem val_drop {b : Nat} {l : List Nat} {i : Nat} (h : i < l.length) : val b (l.drop i) = l.getD i 0 + b * val b (l.drop (i + 1)) := by rw [drop_cons h, val]
theorem val_take {b : Nat} {l : List Nat} {i : Nat} (h : i < l.length) : val b (l.take (i + 1)) = val b (l.take i) + b ^ i * l.getD i 0 := by
  rw [take_snoc h, val_append]
  simp [val, List.length_take, Nat.min_eq_left (Nat.le_of_lt h)]
theorem val_lt_of_top {b : Nat} {l m : List Nat} {i : Nat} (hb : 2 ≤ b) (hl : Lim b l) (hm : Lim b m) (h1 : i < l.length) (h2 : i < m.length) (hle : l.length = m.length) (he : val b (l.drop (i + 1)) = val b (m.drop (i + 1))) (hlt : l.getD i 0 < m.getD i 0) : val b l < val b m := by
  have a1 := val_take_drop b i l (by omega)
  have a2 := val_take_drop b i m (by omega)
  rw [val_drop h1] at a1
  rw [val_drop h2, ← he] at a2
  have b1 := val_lt (hl.take (k := i))
  rw [List.length_take, Nat.min_eq_left (by omega)] at b1
  rw [a1, a2]
  have : b ^ i * (l.getD i 0 + 1 + b * val b (l.drop (i + 1))) ≤ b ^ i * (m.getD i 0 + b * val b (l.drop (i + 1))) := Nat.mul_le_mul_left _ (by omega)
  have e : b ^ i * (l.getD i 0 + 1 + b * val b (l.drop (i + 1))) = b ^ i * (l.getD i 0 + b * val b (l.drop (i + 1))) + b ^ i := by
    rw [show l.getD i 0 + 1 + b * val b (l.drop (i + 1)) = (l.getD i 0 + b * val b (l.drop (i + 1))) + 1 by omega, Nat.mul_add, Nat.mul_one]
  omega

/-! ### binary length -/
def bl (n : Nat) : Nat := if n = 0 then 0 else n.log2 + 1
theorem bl_zero : bl 0 = 0 := rfl
theorem lt_bl (n : Nat) : n < 2 ^ bl n := by
  unfold bl
  split
  · rename_i h; subst h; decide
  · exact Nat.lt_log2_self
theorem bl_le {n k : Nat} (h : n < 2 ^ k) : bl n ≤ k := by
  unfold bl
  split
  · omega
  · rename_i h0; have := (Nat.log2_lt h0).2 h; omega
theorem lt_of_bl {n k : Nat} (h : bl n ≤ k) : n < 2 ^ k := Nat.lt_of_lt_of_le (lt_bl n) (Nat.pow_le_pow_right (by decide) h)
theorem bl_iff {n k : Nat} : bl n ≤ k ↔ n < 2 ^ k := ⟨lt_of_bl, bl_le⟩
theorem bl_pos {n : Nat} (h : 0 < n) : 0 < bl n := by
  unfold bl; rw [if_neg (by omega)]; omega
theorem le_of_bl {n : Nat} (h : 0 < n) : 2 ^ (bl n - 1) ≤ n := by
  rcases Nat.lt_or_ge n (2 ^ (bl n - 1)) with g | g
  · have := bl_le g; have := bl_pos h; omega
  · exact g
theorem bl_mono {n m : Nat} (h : n ≤ m) : bl n ≤ bl m := bl_le (Nat.lt_of_le_of_lt h (lt_bl m))
theorem bl_eq_zero {n : Nat} : bl n = 0 ↔ n = 0 := by
  constructor
  · intro h
    rcases Nat.eq_zero_or_pos n with g | g
    · exact g
    · have := bl_pos g; omega
  · rintro rfl; rfl
theorem bl_eq {n k : Nat} (h1 : 2 ^ k ≤ n) (h2 : n < 2 ^ (k + 1)) : bl n = k + 1 := by
  have h3 := bl_le h2
  have h4 : ¬ bl n ≤ k := fun h => by have := lt_of_bl h; omega
  omega
/-- of a number with a digit on top -/
theorem bl_top {k x r : Nat} (hx : 0 < x) (hr : r < 2 ^ k) : bl (r + 2 ^ k * x) = k + bl x := by
  have h1 := le_of_bl hx
  have h2 := lt_bl x
  have h3 := bl_pos hx
  have e : k + bl x = (k + (bl x - 1)) + 1 := by omega
  rw [e]
  refine bl_eq ?_ ?_
  · rw [Nat.pow_add]
    exact Nat.le_trans (Nat.mul_le_mul_left _ h1) (Nat.le_add_left _ _)
  · rw [show k + (bl x - 1) + 1 = k + bl x by omega, Nat.pow_add]
    have : 2 ^ k * (x + 1) ≤ 2 ^ k * 2 ^ bl x := Nat.mul_le_mul_left _ h2
    rw [Nat.mul_add, Nat.mul_one] at this
    omega
end Go.VM
namespace Go.VM
theorem bl_shift {x k : Nat} (h : 2 ^ k ≤ x) : bl x = k + bl (x / 2 ^ k) := by
  have h1 : 0 < x / 2 ^ k := Nat.div_pos h (Nat.two_pow_pos k)
  have h2 := bl_top h1 (Nat.mod_lt x (Nat.two_pow_pos k))
  rw [Nat.mod_add_div] at h2
  exact h2
def blTab (s : ByteArray) : Bool := (List.range 256).all fun x => (s[x]?).map UInt8.toNat == some (bl x)
theorem blTab_at {s : ByteArray} (h : blTab s = true) {x : Nat} (hx : x < 256) : (s[x]?).map UInt8.toNat = some (bl x) := by
  unfold blTab at h
  rw [List.all_eq_true] at h
  have := h x (List.mem_range.2 hx)
  simpa using this
theorem snoc_of_ne {l : List Nat} (h : l ≠ []) : ∃ m x, l = m ++ [x] := by
  rcases snoc_cases l with e | e
  · exact absurd e h
  · exact e
theorem pow64 (k : Nat) : (18446744073709551616 : Nat) ^ k = 2 ^ (64 * k) := by rw [Nat.pow_mul]
theorem pow32 (k : Nat) : (4294967296 : Nat) ^ k = 2 ^ (32 * k) := by rw [Nat.pow_mul]
theorem bl_digs64 {n : Nat} {m : List Nat} {x : Nat} (h : digs 18446744073709551616 n = m ++ [x]) : x ≠ 0 ∧ x < 18446744073709551616 ∧ bl n = 64 * m.length + bl x := by
  have two : 2 ≤ 18446744073709551616 := by decide
  have h1 := digs_norm two n m x h
  have h2 := lim_digs two n
  rw [h] at h2
  have h3 := val_digs two n
  rw [h, val_append, pow64] at h3
  simp only [val, Nat.mul_zero, Nat.add_zero] at h3
  have h4 := val_lt h2.left
  rw [pow64] at h4
  refine ⟨h1, h2.right x (by simp), ?_⟩
  rw [← h3, bl_top (by omega) h4]
theorem bl_digs32 {n : Nat} {m : List Nat} {x : Nat} (h : digs 4294967296 n = m ++ [x]) : x ≠ 0 ∧ x < 4294967296 ∧ bl n = 32 * m.length + bl x := by
  have two : 2 ≤ 4294967296 := by decide
  have h1 := digs_norm two n m x h
  have h2 := lim_digs two n
  rw [h] at h2
  have h3 := val_digs two n
  rw [h, val_append, pow32] at h3
  simp only [val, Nat.mul_zero, Nat.add_zero] at h3
  have h4 := val_lt h2.left
  rw [pow32] at h4
  refine ⟨h1, h2.right x (by simp), ?_⟩
  rw [← h3, bl_top (by omega) h4]
end Go.VM
namespace Go.VM
theorem lt_of_len {b m n : Nat} (hb : 2 ≤ b) (h : (digs b m).length < (digs b n).length) : m < n := by
  rcases Nat.lt_or_ge m n with g | g
  · exact g
  · rcases Nat.eq_zero_or_pos n with e | e
    · subst e; simp [digs_zero] at h
    · have h1 := digs_len_pos hb e
      have h2 := digs_len_lt hb (Nat.le_trans h1 g)
      omega
end Go.VM
namespace Go.VM
/-! ### rows that are filled from below -/
theorem set_fill (w : List Nat) (m v : Nat) : (w ++ List.replicate (m + 1) 0).set w.length v = (w ++ [v]) ++ List.replicate m 0 := by
  rw [List.set_append_right _ _ (Nat.le_refl _), Nat.sub_self, List.replicate_succ, List.set_cons_zero, List.append_assoc]; rfl
theorem val_take' (b : Nat) (l : List Nat) (i : Nat) : val b (l.take (i + 1)) = val b (l.take i) + b ^ i * l.getD i 0 := by
  by_cases h : i < l.length
  · exact val_take h
  · rw [List.take_of_length_le (by omega), List.take_of_length_le (by omega), List.getD_eq_getElem?_getD, List.getElem?_eq_none (by omega)]; simp
theorem val_take_all (b : Nat) (l : List Nat) (i : Nat) (h : l.length ≤ i) : val b (l.take i) = val b l := by rw [List.take_of_length_le h]
theorem getD_ge {l : List Nat} {i : Nat} (h : l.length ≤ i) : l.getD i 0 = 0 := by rw [List.getD_eq_getElem?_getD, List.getElem?_eq_none h]; rfl
theorem add_step {b i c m : Nat} {w : List Nat} {A : Nat} (hw : w.length = i) (h : val b w + b ^ i * c = A) :
    val b (w ++ [(m + c) % b]) + b ^ (i + 1) * ((m + c) / b) = A + b ^ i * m := by
  rw [val_append, hw, Nat.pow_succ, Nat.mul_assoc, Nat.add_assoc]
  simp only [val, Nat.mul_zero, Nat.add_zero]
  rw [← Nat.mul_add, Nat.mod_add_div, Nat.mul_add, ← h]
  omega
theorem lim_snoc {b v : Nat} {w : List Nat} (h : Lim b w) (hv : v < b) : Lim b (w ++ [v]) := h.append (.cons hv .nil)
end Go.VM
namespace Go.VM
/-- one limb of a difference: with d + y + c = x + b c' -/
theorem sub_step {b i c c' x y d A B : Nat} {w : List Nat} (hw : w.length = i) (h : val b w + B = A + b ^ i * c) (hd : d + y + c = x + b * c') :
    val b (w ++ [d]) + (B + b ^ i * y) = A + b ^ i * x + b ^ (i + 1) * c' := by
  rw [val_append, hw, Nat.pow_succ, Nat.mul_assoc]
  simp only [val, Nat.mul_zero, Nat.add_zero]
  have e1 : b ^ i * (d + y + c) = b ^ i * (x + b * c') := by rw [hd]
  simp only [Nat.mul_add] at e1
  omega
end Go.VM
namespace Go.VM
theorem le_len {b m n : Nat} (hb : 2 ≤ b) (h : m ≤ n) : (digs b m).length ≤ (digs b n).length := by
  rcases Nat.lt_or_ge (digs b n).length (digs b m).length with g | g
  · have := lt_of_len hb g; omega
  · exact g
theorem mul_step (x m c : Nat) : (x * m % 18446744073709551616 + c) % 18446744073709551616 = (x * m + c) % 18446744073709551616 ∧ x * m / 18446744073709551616 + (x * m % 18446744073709551616 + c) / 18446744073709551616 = (x * m + c) / 18446744073709551616 := by
  generalize x * m = p
  constructor <;> omega
theorem mul_step_lt {x m c : Nat} (hx : x < 18446744073709551616) (hm : m < 18446744073709551616) (hc : c < 18446744073709551616) : (x * m + c) / 18446744073709551616 < 18446744073709551616 := by
  have : x * m ≤ 18446744073709551615 * 18446744073709551615 := Nat.mul_le_mul (by omega) (by omega)
  omega
end Go.VM
namespace Go.VM
theorem addAt_step {b i k y c L Y : Nat} {w : List Nat} (hi : i < w.length) (hk : k ≤ i) (h : val b w + b ^ i * c = L + b ^ k * Y) (x : Nat) (hx : w.getD i 0 = x) :
    val b (w.set i ((x + y + c) % b)) + b ^ (i + 1) * ((x + y + c) / b) = L + b ^ k * (Y + b ^ (i - k) * y) := by
  have h1 := val_set b i ((x + y + c) % b) w hi
  rw [hx] at h1
  have h2 := Nat.mod_add_div (x + y + c) b
  have e1 : b ^ (i + 1) * ((x + y + c) / b) = b ^ i * (b * ((x + y + c) / b)) := by rw [Nat.pow_succ, Nat.mul_assoc]
  have e2 : b ^ k * (Y + b ^ (i - k) * y) = b ^ k * Y + b ^ i * y := by
    rw [Nat.mul_add, ← Nat.mul_assoc, ← Nat.pow_add, show k + (i - k) = i by omega]
  have e3 : b ^ i * ((x + y + c) % b) + b ^ i * (b * ((x + y + c) / b)) = b ^ i * x + b ^ i * y + b ^ i * c := by
    rw [← Nat.mul_add, h2, Nat.mul_add, Nat.mul_add]
  rw [e1, e2]
  generalize b ^ i * ((x + y + c) % b) = p1 at *
  generalize b ^ i * (b * ((x + y + c) / b)) = p2 at *
  generalize b ^ i * x = p3 at *
  generalize b ^ i * y = p4 at *
  generalize b ^ i * c = p5 at *
  generalize b ^ k * Y = p6 at *
  omega
/-- at the end nothing is lost -/
theorem addAt_end {b i k c n L : Nat} {w y : List Nat} (hb : 2 ≤ b) (hn : n ≤ i) (hk : k ≤ i) (h : val b w + b ^ i * c = L + b ^ k * val b (y.take (i - k))) (hroom : L + b ^ k * val b y < b ^ n) :
    val b w = L + b ^ k * val b y := by
  have hpow : b ^ n ≤ b ^ i := Nat.pow_le_pow_right (by omega) hn
  have hpos : 0 < b ^ i := Nat.pow_pos (by omega)
  have hy : val b (y.take (i - k)) ≤ val b y ∧ (val b (y.take (i - k)) ≠ val b y → b ^ i ≤ b ^ k * val b y) := by
    by_cases g : i - k ≤ y.length
    · have h1 := val_take_drop b (i - k) y g
      refine ⟨by rw [h1]; exact Nat.le_add_right _ _, fun hne => ?_⟩
      have h2 : 0 < val b (y.drop (i - k)) := by
        rcases Nat.eq_zero_or_pos (val b (y.drop (i - k))) with e | e
        · rw [e, Nat.mul_zero, Nat.add_zero] at h1; exact absurd h1.symm hne
        · exact e
      have h3 : b ^ (i - k) * 1 ≤ b ^ (i - k) * val b (y.drop (i - k)) := Nat.mul_le_mul_left _ h2
      have h4 : b ^ (i - k) ≤ val b y := by omega
      have h5 := Nat.mul_le_mul_left (b ^ k) h4
      rw [← Nat.pow_add, show k + (i - k) = i by omega] at h5
      exact h5
    · rw [List.take_of_length_le (by omega)]
      exact ⟨Nat.le_refl _, fun h => absurd rfl h⟩
  have heq : val b (y.take (i - k)) = val b y := by
    by_cases e : val b (y.take (i - k)) = val b y
    · exact e
    · have := hy.2 e
      omega
  rw [heq] at h
  have hc : c = 0 := by
    rcases Nat.eq_zero_or_pos c with e | e
    · exact e
    · have := Nat.mul_le_mul_left (b ^ i) (show 1 ≤ c from e)
      omega
  subst hc
  omega
end Go.VM
namespace Go.VM
theorem slice_snoc {a : List Nat} {f k : Nat} (h1 : f ≤ k) (h2 : k < a.length) : (a.drop f).take (k + 1 - f) = (a.drop f).take (k - f) ++ [a.getD k 0] := by
  have hi : k - f < (a.drop f).length := by simp; omega
  rw [show k + 1 - f = k - f + 1 by omega, take_snoc hi]
  congr 2
  rw [getD_lt hi, getD_lt h2, List.getElem_drop]
  congr 1
  omega
end Go.VM
namespace Go.VM
/-- a product of two limbs, with a carry and a limb below -/
theorem school_step {p c o : Nat} (hp : p ≤ 18446744073709551615 * 18446744073709551615) (hc : c < 18446744073709551616) (ho : o < 18446744073709551616) :
    (o + (p % 18446744073709551616 + c) % 18446744073709551616) % 18446744073709551616 = (o + p + c) % 18446744073709551616 ∧
    ((p / 18446744073709551616 + (p % 18446744073709551616 + c) / 18446744073709551616) % 18446744073709551616 + (o + (p % 18446744073709551616 + c) % 18446744073709551616) / 18446744073709551616) % 18446744073709551616 = (o + p + c) / 18446744073709551616 ∧ (o + p + c) / 18446744073709551616 < 18446744073709551616 := by
  refine ⟨?_, ?_, ?_⟩ <;> omega
theorem mul_le_max {x y : Nat} (hx : x < 18446744073709551616) (hy : y < 18446744073709551616) : x * y ≤ 18446744073709551615 * 18446744073709551615 := Nat.mul_le_mul (by omega) (by omega)
theorem getD_append_left {l m : List Nat} {i : Nat} (h : i < l.length) : (l ++ m).getD i 0 = l.getD i 0 := by
  simp [List.getD, List.getElem?_append_left h]
end Go.VM
