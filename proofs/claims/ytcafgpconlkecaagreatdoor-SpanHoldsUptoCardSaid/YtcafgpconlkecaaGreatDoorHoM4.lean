/- Texts of a claim, merged: what they prove is told at the last one's head. -/
import Derived.Test.YtcafgpconlkecaaGreatDoorHoM3
set_option linter.unusedVariables false
set_option maxRecDepth 100000
set_option linter.unusedSimpArgs false
set_option maxHeartbeats 8000000
namespace Go.VM
section
variable {B m T lowU W lowV U V q : Nat}
theorem est_top (hU : U = lowU + B ^ m * T) (hlU : lowU < B ^ m) (hV : V = lowV + B ^ m * W) (hW : 0 < W) : U / V ≤ T / W := by
 rw [Nat.le_div_iff_mul_le hW]
 have h1 : U / V * V ≤ U := Nat.div_mul_le_self U V
 have h2 : B ^ m * (U / V * W) ≤ U / V * V := by rw [hV, Nat.mul_add, Nat.mul_left_comm]; omega
 have h3 : B ^ m * (U / V * W) < B ^ m * (T + 1) := by rw [Nat.mul_add, Nat.mul_one]; omega
 exact Nat.le_of_lt_succ (Nat.lt_of_mul_lt_mul_left h3)
theorem est_low (hU : U = lowU + B ^ m * T) (hV : V = lowV + B ^ m * W) (hlV : lowV < B ^ m) (hq : q * W ≤ T) (hqB : q ≤ B) (hBW : B ≤ W) (hV0 : 0 < V) : q ≤ U / V + 1 := by
 have h1 : q * lowV ≤ B ^ m * W := by
  have : q * lowV ≤ W * B ^ m := Nat.mul_le_mul (by omega) (Nat.le_of_lt hlV)
  rw [Nat.mul_comm] at this ⊢
  rw [Nat.mul_comm (B ^ m)]
  exact this
 have h2 : q * V = q * lowV + B ^ m * (q * W) := by rw [hV, Nat.mul_add, Nat.mul_left_comm]
 have h3 : B ^ m * (q * W) ≤ B ^ m * T := Nat.mul_le_mul_left _ hq
 have h4 : q * V ≤ U + V := by rw [h2]; omega
 rcases Nat.eq_zero_or_pos q with h | h
 ·rw [h]; exact Nat.zero_le _
 ·have h5 : (q - 1) * V ≤ U := by rw [Nat.sub_mul, Nat.one_mul]; omega
  have h6 := (Nat.le_div_iff_mul_le hV0).2 h5
  omega
end
theorem val_two {b m : Nat} {l : List Nat} (h : l.length = m + 2) : val b l = val b (l.take m) + b ^ m * (l.getD m 0 + b * l.getD (m + 1) 0) := by
 rw [val_take_drop b m l (by omega), drop_cons (i := m) (by omega), val, drop_cons (i := m + 1) (by omega), val, List.drop_of_length_le (by omega)]
 simp [val]
theorem val_three {b m : Nat} {l : List Nat} (h : l.length = m + 3) : val b l = val b (l.take m) + b ^ m * (l.getD m 0 + b * (l.getD (m + 1) 0 + b * l.getD (m + 2) 0)) := by
 rw [val_take_drop b m l (by omega), drop_cons (i := m) (by omega), val, drop_cons (i := m + 1) (by omega), val, drop_cons (i := m + 2) (by omega), val, List.drop_of_length_le (by omega)]
 simp [val]
theorem take_lt {b m : Nat} {l : List Nat} (h : Lim b l) (hm : m ≤ l.length) : val b (l.take m) < b ^ m := by
 have := val_lt (h.take (k := m))
 rwa [List.length_take, Nat.min_eq_left hm] at this
theorem top_le {b n : Nat} {u v : List Nat} (hb : 0 < b) (hu : u.length = n + 1) (hv : v.length = n) (hn : 0 < n) (hlv : Lim b v) (h : val b u < val b v * b) : u.getD n 0 ≤ v.getD (n - 1) 0 := by
 have h1 : val b u = val b (u.take n) + b ^ n * u.getD n 0 := by rw [← val_take' b u n, List.take_of_length_le (by omega)]
 have h2 : val b v = val b (v.take (n - 1)) + b ^ (n - 1) * v.getD (n - 1) 0 := by
  have := val_take' b v (n - 1)
  rw [show n - 1 + 1 = n by omega, List.take_of_length_le (by omega)] at this
  exact this
 have h3 := take_lt (m := n - 1) hlv (by omega)
 have h4 : val b v < b ^ (n - 1) * (v.getD (n - 1) 0 + 1) := by rw [Nat.mul_add]; omega
 have h5 : val b v * b ≤ b ^ n * (v.getD (n - 1) 0 + 1) := by
  have e : b ^ n = b ^ (n - 1) * b := by rw [← Nat.pow_succ, show (n - 1).succ = n by omega]
  rw [e, Nat.mul_right_comm]
  exact Nat.mul_le_mul_right b (Nat.le_of_lt h4)
 have h6 : b ^ n * u.getD n 0 < b ^ n * (v.getD (n - 1) 0 + 1) := by omega
 have := Nat.lt_of_mul_lt_mul_left h6
 omega
theorem msub_step {b i q x y c c' bo bo' s d : Nat} {w : List Nat} {A P : Nat} (hw : w.length = i) (h : val b w + P * q = A + b ^ i * (c + bo)) (hs : x * q + c = s + b * c') (hd : d + s + bo = y + b * bo') :
  val b (w ++ [d]) + (P + b ^ i * x) * q = (A + b ^ i * y) + b ^ (i + 1) * (c' + bo') := by
 rw [val_append, hw, val, val, Nat.mul_zero, Nat.add_zero, Nat.add_mul, Nat.pow_succ]
 have e1 : b ^ i * x * q + b ^ i * c = b ^ i * s + b ^ i * b * c' := by rw [Nat.mul_assoc, Nat.mul_assoc, ← Nat.mul_add, ← Nat.mul_add, hs]
 have e2 : b ^ i * d + b ^ i * s + b ^ i * bo = b ^ i * y + b ^ i * b * bo' := by rw [Nat.mul_assoc, ← Nat.mul_add, ← Nat.mul_add, ← Nat.mul_add, hd]
 rw [Nat.mul_add] at h
 rw [Nat.mul_add]
 omega
theorem addb_step {b i x y c c' d : Nat} {w : List Nat} {A P : Nat} (hw : w.length = i) (h : val b w + b ^ i * c = A + P) (hd : d + b * c' = y + x + c) :
  val b (w ++ [d]) + b ^ (i + 1) * c' = (A + b ^ i * y) + (P + b ^ i * x) := by
 rw [val_append, hw, val, val, Nat.mul_zero, Nat.add_zero, Nat.pow_succ]
 have e : b ^ i * d + b ^ i * b * c' = b ^ i * y + b ^ i * x + b ^ i * c := by rw [Nat.mul_assoc, ← Nat.mul_add, hd, Nat.mul_add, Nat.mul_add]
 omega
theorem getD_mid (A u C : List Nat) (i : Nat) (h : i < u.length) : ((A ++ u) ++ C).getD (A.length + i) 0 = u.getD i 0 := by
 rw [getD_append_left (by simp; omega), List.getD_eq_getElem?_getD, List.getD_eq_getElem?_getD, List.getElem?_append_right (by omega)]
 simp
theorem set_mid (A u C : List Nat) (i x : Nat) (h : i < u.length) : ((A ++ u) ++ C).set (A.length + i) x = (A ++ u.set i x) ++ C := by
 rw [List.set_append_left _ _ (by simp; omega), List.set_append_right _ _ (by omega)]
 simp
theorem getD_snoc_drop {w u : List Nat} {i : Nat} (hw : w.length = i) (hi : i < u.length) : (w ++ u.drop i).getD i 0 = u.getD i 0 := by
 rw [drop_cons hi, ← hw]
 exact getD_at _ _ _
theorem set_snoc_drop {w u : List Nat} {i : Nat} (hw : w.length = i) (hi : i < u.length) (x : Nat) : (w ++ u.drop i).set i x = (w ++ [x]) ++ u.drop (i + 1) := by
 rw [drop_cons hi]
 conv => lhs; rw [← hw]
 rw [set_at, hw]; simp
theorem knuth_end {b n q U V W bo : Nat} (hV : 0 < V) (h : W + V * q = U + b ^ (n + 1) * bo) (hW : W < b ^ (n + 1)) (hU : U < b ^ (n + 1)) (h1 : U / V ≤ q) (h2 : q ≤ U / V + 1) (hbo : bo ≤ 1) :
  (bo = 0 → q = U / V ∧ W = U % V) ∧ (bo ≠ 0 → q = U / V + 1 ∧ W + V = U % V + b ^ (n + 1)) := by
 have e := Nat.div_add_mod U V
 have hm := Nat.mod_lt U hV
 constructor
 ·rintro rfl
  rw [Nat.mul_zero, Nat.add_zero] at h
  rcases Nat.lt_or_ge (U / V) q with g | g
  ·have : V * (U / V + 1) ≤ V * q := Nat.mul_le_mul_left _ g
   rw [Nat.mul_add, Nat.mul_one] at this
   omega
  ·have hq : q = U / V := by omega
   rw [hq] at h
   exact ⟨hq, by omega⟩
 ·intro hne
  have : bo = 1 := by omega
  subst this
  rw [Nat.mul_one] at h
  rcases Nat.lt_or_ge (U / V) q with g | g
  ·have hq : q = U / V + 1 := by omega
   rw [hq, Nat.mul_add, Nat.mul_one] at h
   exact ⟨hq, by omega⟩
  ·have hq : q = U / V := by omega
   rw [hq] at h
   omega
end Go.VM
namespace Go.VM
theorem knuth_ok {B q vh vl r z n T W : Nat} (hT : T = z + B * n) (hW : W = vl + B * vh) (he : q * vh + r = n) (h : q * vl ≤ r * B + z) : q * W ≤ T := by
 subst hT hW he
 rw [Nat.mul_add, Nat.mul_add, Nat.mul_comm B r, Nat.mul_left_comm q B vh]
 omega
theorem knuth_no {B q vh vl r z n T W : Nat} (hT : T = z + B * n) (hW : W = vl + B * vh) (he : q * vh + r = n) (h : r * B + z < q * vl) : T < q * W := by
 subst hT hW he
 rw [Nat.mul_add, Nat.mul_add, Nat.mul_comm B r, Nat.mul_left_comm q B vh]
 omega
theorem knuth_big {B q vh vl r z n T W : Nat} (hT : T = z + B * n) (hW : W = vl + B * vh) (he : q * vh + r = n) (hq : q ≤ B) (hl : vl ≤ B) (hr : B ≤ r) : q * W ≤ T := by
 refine knuth_ok hT hW he ?_
 have h1 : q * vl ≤ B * B := Nat.mul_le_mul hq hl
 have h2 : B * B ≤ r * B := Nat.mul_le_mul_right B hr
 omega
theorem pair_le {B p r z : Nat} (hB : 0 < B) (hz : z < B) : p ≤ r * B + z ↔ p / B < r ∨ (p / B = r ∧ p % B ≤ z) := by
 have e := Nat.div_add_mod p B
 have hm := Nat.mod_lt p hB
 rw [Nat.mul_comm] at e
 constructor
 ·intro h
  rcases Nat.lt_trichotomy (p / B) r with g | g | g
  ·exact .inl g
  ·subst g; exact .inr ⟨rfl, by omega⟩
  ·have : (r + 1) * B ≤ p / B * B := Nat.mul_le_mul_right B g
   rw [Nat.add_mul, Nat.one_mul] at this
   omega
 ·rintro (g | ⟨g, h⟩)
  ·have : (p / B + 1) * B ≤ r * B := Nat.mul_le_mul_right B g
   rw [Nat.add_mul, Nat.one_mul] at this
   omega
  ·subst g; omega
end Go.VM
namespace Go.VM
theorem top_zero {b n : Nat} {u : List Nat} (hb : 0 < b) (hn : u.length = n + 1) (h : val b u < b ^ n) : u = u.take n ++ [0] := by
 have e : u = u.take n ++ [u.getD n 0] := by
  rw [← take_snoc (by omega), List.take_of_length_le (by omega)]
 have h1 : val b u = val b (u.take n) + b ^ n * u.getD n 0 := by rw [← val_take' b u n, List.take_of_length_le (by omega)]
 have h2 : u.getD n 0 = 0 := by
  rcases Nat.eq_zero_or_pos (u.getD n 0) with h | g
  ·exact h
  ·have : b ^ n * 1 ≤ b ^ n * u.getD n 0 := Nat.mul_le_mul_left _ g
   omega
 rw [h2] at e
 exact e
theorem digs_top {b y m : Nat} (hb : 2 ≤ b) (h : (digs b y).length = m + 1) : (digs b y).getD m 0 ≠ 0 ∧ y = val b ((digs b y).take m) + b ^ m * (digs b y).getD m 0 := by
 have hv := val_digs hb y
 have h1 : val b (digs b y) = val b ((digs b y).take m) + b ^ m * (digs b y).getD m 0 := by rw [← val_take' b _ m, List.take_of_length_le (by omega)]
 refine ⟨fun e => ?_, by omega⟩
 have hlow := take_lt (m := m) (lim_digs hb y) (by omega)
 rw [e, Nat.mul_zero, Nat.add_zero] at h1
 have := digs_len hb (n := y) (k := m) (by omega)
 omega
theorem norm_val {y m s : Nat} (h : (digs 18446744073709551616 y).length = m + 1) (hs : s = 64 - bl ((digs 18446744073709551616 y).getD m 0)) :
  s < 64 ∧ y * 2 ^ s < 18446744073709551616 ^ (m + 1) ∧ 18446744073709551616 ^ m * 9223372036854775808 ≤ y * 2 ^ s := by
 obtain ⟨h0, hy⟩ := digs_top (b := 18446744073709551616) (by decide) h
 have htl := (lim_digs (b := 18446744073709551616) (by decide) y).getD (i := m) (by decide)
 have hlow := take_lt (m := m) (lim_digs (b := 18446744073709551616) (by decide) y) (by omega)
 generalize (digs 18446744073709551616 y).getD m 0 = tp at *
 obtain ⟨n1, n2⟩ := norm_shift (y := tp) (by omega) htl
 have hbp := bl_pos (n := tp) (by omega)
 rw [← hs] at n1 n2
 refine ⟨by omega, ?_, ?_⟩
 ·have h1 : y < 18446744073709551616 ^ m * (tp + 1) := by rw [Nat.mul_add]; omega
  have h3 : (tp + 1) * 2 ^ s ≤ 18446744073709551616 := by
   have hbl : tp + 1 ≤ 2 ^ bl tp := lt_bl tp
   have h4 : (tp + 1) * 2 ^ s ≤ 2 ^ bl tp * 2 ^ s := Nat.mul_le_mul_right _ hbl
   rw [← Nat.pow_add, hs, show bl tp + (64 - bl tp) = 64 by have := bl_le (n := tp) (k := 64) htl; omega] at h4
   rw [hs]; exact h4
  have h5 : y * 2 ^ s < 18446744073709551616 ^ m * (tp + 1) * 2 ^ s := Nat.mul_lt_mul_of_pos_right h1 (Nat.two_pow_pos s)
  rw [Nat.mul_assoc] at h5
  rw [Nat.pow_succ]
  exact Nat.lt_of_lt_of_le h5 (Nat.mul_le_mul_left _ h3)
 ·have h1 : 18446744073709551616 ^ m * tp ≤ y := by omega
  have h2 : 18446744073709551616 ^ m * tp * 2 ^ s ≤ y * 2 ^ s := Nat.mul_le_mul_right _ h1
  rw [Nat.mul_assoc] at h2
  exact Nat.le_trans (Nat.mul_le_mul_left _ n2) h2
theorem top_ge {b n k : Nat} {v : List Nat} (hb : 0 < b) (hv : Lim b v) (hn : v.length = n + 1) (h : b ^ n * k ≤ val b v) : k ≤ v.getD n 0 := by
 have h1 : val b v = val b (v.take n) + b ^ n * v.getD n 0 := by rw [← val_take' b v n, List.take_of_length_le (by omega)]
 have h2 := take_lt (m := n) hv (by omega)
 have h3 : b ^ n * k < b ^ n * (v.getD n 0 + 1) := by rw [Nat.mul_add]; omega
 have := Nat.lt_of_mul_lt_mul_left h3
 omega
theorem shift_div {x y s : Nat} : x * 2 ^ s / (y * 2 ^ s) = x / y ∧ x * 2 ^ s % (y * 2 ^ s) = x % y * 2 ^ s := ⟨Nat.mul_div_mul_right _ _ (Nat.two_pow_pos s), Nat.mul_mod_mul_right _ _ _⟩
theorem first_rest {x y s N n : Nat} {lu : List Nat} (hlu : Lim 18446744073709551616 lu) (hl : lu.length = N + 1) (hv : val 18446744073709551616 lu = x * 2 ^ s) (hx : x < 18446744073709551616 ^ N) (hn : 0 < n) (hnN : n ≤ N) (hy : 18446744073709551616 ^ (n - 1) ≤ y) :
  val 18446744073709551616 (lu.drop (N - n + 1)) < y * 2 ^ s := by
 have h1 := val_take_drop 18446744073709551616 (N - n + 1) lu (by omega)
 have h2 : 18446744073709551616 ^ (N - n + 1) * val 18446744073709551616 (lu.drop (N - n + 1)) < 18446744073709551616 ^ (N - n + 1) * (18446744073709551616 ^ (n - 1) * 2 ^ s) := by
  rw [← Nat.mul_assoc, ← Nat.pow_add, show N - n + 1 + (n - 1) = N by omega]
  have : x * 2 ^ s < 18446744073709551616 ^ N * 2 ^ s := Nat.mul_lt_mul_of_pos_right hx (Nat.two_pow_pos s)
  omega
 have h3 := Nat.lt_of_mul_lt_mul_left h2
 exact Nat.lt_of_lt_of_le h3 (Nat.mul_le_mul_right _ hy)
end Go.VM
namespace Go.VM
theorem back_end {vw P cc R : Nat} (h : vw + P * cc = R + P) (hlt : vw < P) (hc : cc = 0 ∨ cc = 1) : vw = R := by
 rcases hc with rfl | rfl
 ·rw [Nat.mul_zero, Nat.add_zero] at h; omega
 ·rw [Nat.mul_one] at h; omega
end Go.VM
namespace Go.VM
theorem add_last {b i y c V : Nat} {w2 Wl : List Nat} (hw : w2.length = i) (h : val b w2 + b ^ i * c = val b (Wl.take i) + V) (hl : val b Wl = val b (Wl.take i) + b ^ i * y) :
  val b (w2 ++ [(y + c) % b]) + b ^ (i + 1) * ((y + c) / b) = val b Wl + V := by
 have hd := Nat.mod_add_div (y + c) b
 have key := addb_step (b := b) (i := i) (x := 0) (y := y) (c := c) (c' := (y + c) / b) (d := (y + c) % b) (A := val b (Wl.take i)) (P := V) hw h (by omega)
 rw [Nat.mul_zero, Nat.add_zero] at key
 rw [hl]
 exact key
end Go.VM
namespace Go.Proofs.YtcafgpconlkecaaGreatDoor
open Go.VM

def GPost (t : Nat) (A u D v : List Nat) (m : Nat) : V → (Nat → Option Blk) → Nat → Prop := fun r σ' _ => r = nv (val 18446744073709551616 u / val 18446744073709551616 v) ∧ ∃ u', σ' t = nblk ((A ++ u') ++ D) ∧ u'.length = m + 3 ∧ Lim 18446744073709551616 u' ∧ val 18446744073709551616 u' = val 18446744073709551616 u % val 18446744073709551616 v
def VCrest : VC → VC | .seq _ b => b | v => v
def R1g : VC := VCrest (VCrest (VCrest (VCrest (VCrest (VCrest C.div_guess)))))
def R2g : VC := VCrest (VCrest R1g)
theorem guess_end (t : Nat) (tv : Tok) (A u D v : List Nat) (m c : Nat) (cap : Option Nat) (hu : Lim 18446744073709551616 u) (hv : Lim 18446744073709551616 v) (hun : u.length = m + 3) (hvn : v.length = m + 2) (hV0 : 0 < val 18446744073709551616 v) (hUlt : val 18446744073709551616 u < 18446744073709551616 ^ (m + 3))
  (hlen : A.length + D.length + m ≤ 4398046511104) (q : Nat) (hq : q < 18446744073709551616) (hQ : val 18446744073709551616 u / val 18446744073709551616 v ≤ q) (hq1 : q ≤ val 18446744073709551616 u / val 18446744073709551616 v + 1)
  (ρ3 : Nat → V) (c3 : Nat) (w : List Nat) (carry bo : Nat) (hw : w.length = m + 2) (hlw : Lim 18446744073709551616 w) (hca : carry < 18446744073709551616) (hbo : bo ≤ 1) (hinv : val 18446744073709551616 w + val 18446744073709551616 v * q = val 18446744073709551616 (u.take (m + 2)) + 18446744073709551616 ^ (m + 2) * (carry + bo))
  (h0 : ρ3 0 = .buf t A.length (m + 3) cap 1) (h1 : ρ3 1 = nats tv v) (h5 : ρ3 5 = iv ((m + 2 : Nat) : Int)) (h6 : ρ3 6 = nv q) (h13 : ρ3 13 = nv carry) (h14 : ρ3 14 = nv bo) (hc3 : c ≤ c3) :
  VWP Tryz.prog c R2g (retL R.div_guess fun r σ' c' => c ≤ c' ∧ GPost t A u D v m r (lentσ (supd noBlk t (nblk ((A ++ u) ++ D))) σ') c') ⟨ρ3, supd noBlk t (nblk ((A ++ (w ++ u.drop (m + 2))) ++ D)), c3⟩ := by
 unfold R2g R1g C.div_guess R.div_guess
 simp only [VCrest, GPost]
 obtain ⟨x, hxe⟩ : ∃ x, u.getD (m + 2) 0 = x := ⟨_, rfl⟩
 have hx := hu.getD (i := m + 2) (by decide)
 rw [hxe] at hx
 obtain ⟨Qq, hQq⟩ : ∃ Qq, Qq = val 18446744073709551616 u / val 18446744073709551616 v := ⟨_, rfl⟩
 have hux := val_take' 18446744073709551616 u (m + 2)
 rw [List.take_of_length_le (show u.length ≤ m + 2 + 1 by omega), hxe] at hux
 have hget : ((A ++ (w ++ u.drop (m + 2))) ++ D).getD (A.length + (m + 2)) 0 = x := by rw [getD_mid _ _ _ _ (by simp; omega), getD_snoc_drop hw (by omega), hxe]
 have hset : ∀ d, ((A ++ (w ++ u.drop (m + 2))) ++ D).set (A.length + (m + 2)) d = (A ++ (w ++ [d])) ++ D := fun d => by
  rw [set_mid _ _ _ _ _ (by simp; omega), set_snoc_drop hw (by omega), List.drop_of_length_le (by omega), List.append_nil]
 have hlen2 : ((A ++ (w ++ u.drop (m + 2))) ++ D).length = A.length + (m + 3) + D.length := by simp; omega
 have hb1 : (if x < carry + bo then 1 else 0) ≤ 1 := by split <;> omega
 have key := msub_step (b := 18446744073709551616) (q := q) (x := 0) (c' := 0) (s := carry) (bo' := if x < carry + bo then 1 else 0) (d := (x + 18446744073709551616 - carry - bo) % 18446744073709551616) (y := x) hw hinv (by omega) (by split <;> omega)
 rw [Nat.mul_zero, Nat.add_zero, ← hux, Nat.zero_add] at key
 have hdl := Nat.mod_lt (x + 18446744073709551616 - carry - bo) (show 0 < 18446744073709551616 by decide)
 obtain ⟨d, hdd⟩ : ∃ d, d = (x + 18446744073709551616 - carry - bo) % 18446744073709551616 := ⟨_, rfl⟩
 rw [← hdd] at key hdl
 obtain ⟨bo2, hbo2⟩ : ∃ b2, b2 = if x < carry + bo then 1 else 0 := ⟨_, rfl⟩
 rw [← hbo2] at key hb1
 have hWl : Lim 18446744073709551616 (w ++ [d]) := lim_snoc hlw hdl
 have hWn : (w ++ [d]).length = m + 3 := by simp; omega
 have hWlt := val_lt hWl
 rw [hWn] at hWlt
 have e23 : m + 3 = m + 2 + 1 := by omega
 have hUlt2 := hUlt
 rw [e23] at hUlt2 hWlt
 obtain ⟨n0, n1⟩ := knuth_end (b := 18446744073709551616) (n := m + 2) hV0 key hWlt hUlt2 (by omega) hq1 hb1
 by_cases gb : bo2 = 0
 ·obtain ⟨r1, r2⟩ := n0 gb
  rw [gb] at hbo2
  (repeat (first | refine v_reg ?_ | refine v_last ?_ | refine vwp_seq ?_ | refine vwp_block ?_ | refine vwp_skip ?_ | refine vwp_exit ?_ | refine vwp_ret ?_ | refine v_cond ?_ | simp only [vm, ite_true, ite_false, eq_self, reduceIte, Nat.reduceEqDiff, Option.map, h0, h1, h5, h6, h13, h14, hget, hset, hlen2, ← hbo2, ← hdd] | refine And.intro (by omega) ?_))
  exact ⟨by rw [r1], w ++ [d], rfl, hWn, hWl, r2⟩
 ·obtain ⟨r1, r2⟩ := n1 gb
  have gb1 : bo2 = 1 := by omega
  rw [gb1] at hbo2
  have hq0 : 0 < q := by omega
  have hd1 := dec_mod64 hq0 hq
  (repeat (first | refine v_reg ?_ | refine v_last ?_ | refine vwp_seq ?_ | refine vwp_block ?_ | refine vwp_skip ?_ | refine vwp_exit ?_ | refine vwp_ret ?_ | refine v_cond ?_ | simp only [vm, ite_true, ite_false, eq_self, reduceIte, Nat.reduceEqDiff, Option.map, h0, h1, h5, h6, h13, h14, hget, hset, hlen2, ← hbo2, ← hdd, hd1, hvn] | refine And.intro (by omega) ?_))
  generalize w ++ [d] = Wl at *
  have hWtop := hWl.getD (i := m + 2) (by decide)
  refine v_loop (fun S => ∃ w2 back, w2.length = m + 2 ∧ Lim 18446744073709551616 w2 ∧ back ≤ 1 ∧ val 18446744073709551616 w2 + 18446744073709551616 ^ (m + 2) * back = val 18446744073709551616 (Wl.take (m + 2)) + val 18446744073709551616 v ∧ S.ρ 0 = .buf t A.length (m + 3) cap 1 ∧ S.ρ 5 = iv ((m + 2 : Nat) : Int) ∧ S.ρ 6 = nv (q - 1) ∧ S.ρ 21 = nv back ∧ S.σ = supd noBlk t (nblk ((A ++ (w2 ++ Wl.drop (m + 2))) ++ D)) ∧ c ≤ S.c) ?_ ?_
  ·refine vwp_loop (fun k S => ∃ i w2 back, k = m + 2 - i ∧ i ≤ m + 2 ∧ w2.length = i ∧ Lim 18446744073709551616 w2 ∧ back ≤ 1 ∧ val 18446744073709551616 w2 + 18446744073709551616 ^ i * back = val 18446744073709551616 (Wl.take i) + val 18446744073709551616 (v.take i) ∧ S.ρ 0 = .buf t A.length (m + 3) cap 1 ∧ S.ρ 5 = iv ((m + 2 : Nat) : Int) ∧ S.ρ 6 = nv (q - 1) ∧ S.ρ 21 = nv back ∧ S.ρ 166 = nats tv v ∧ S.ρ 167 = iv ((m + 2 : Nat) : Int) ∧ S.ρ 168 = iv i ∧ S.σ = supd noBlk t (nblk ((A ++ (w2 ++ Wl.drop i)) ++ D)) ∧ c ≤ S.c) (m + 2) ?_ ?_
   ·refine ⟨0, [], 0, by omega, by omega, ?_⟩
    refine xSF (jn h0 (jn h1 (jn h5 h6))) ?_
    (repeat' apply And.intro) <;> first | rfl | omega | assumption | exact Lim.nil | (simp [val]; done) | (rw [List.nil_append, List.drop_zero])
   rintro k ⟨ρ4, σ, c4⟩ ⟨i, w2, back, hk, hi, hw2, hlw2, hba, hinv2, h0, h5, h6, h21, h166, h167, h168, hσ, hc4⟩
   dsimp only at h0 h5 h6 h21 h166 h167 h168 hσ hc4
   subst hσ
   by_cases g : (i : Int) < ((m + 2 : Nat) : Int)
   ·have hi' : i < m + 2 := by omega
    have hxi := hv.getD (i := i) (by decide)
    have hyi := hWl.getD (i := i) (by decide)
    have hvx := val_take' 18446744073709551616 v i
    have hwx := val_take' 18446744073709551616 Wl i
    have hget3 : ((A ++ (w2 ++ Wl.drop i)) ++ D).getD (A.length + i) 0 = Wl.getD i 0 := by rw [getD_mid _ _ _ _ (by simp; omega), getD_snoc_drop hw2 (by omega)]
    have hset3 : ∀ d, ((A ++ (w2 ++ Wl.drop i)) ++ D).set (A.length + i) d = (A ++ ((w2 ++ [d]) ++ Wl.drop (i + 1))) ++ D := fun d => by rw [set_mid _ _ _ _ _ (by simp; omega), set_snoc_drop hw2 (by omega)]
    have hlen3 : ((A ++ (w2 ++ Wl.drop i)) ++ D).length = A.length + (m + 3) + D.length := by simp; omega
    refine xRF (jn h0 (jn h5 (jn h6 (jn h21 (jn h166 (jn h167 (jn h168 (jn g (jn hvn (jn hget3 (jn hset3 hlen3))))))))))) ?_
    have hb3 : (Wl.getD i 0 + v.getD i 0 + back) / 18446744073709551616 ≤ 1 := by omega
    have key3 := addb_step (b := 18446744073709551616) (c' := (Wl.getD i 0 + v.getD i 0 + back) / 18446744073709551616) (d := (Wl.getD i 0 + v.getD i 0 + back) % 18446744073709551616) (x := v.getD i 0) (y := Wl.getD i 0) hw2 hinv2 (by omega)
    rw [← hvx, ← hwx] at key3
    refine ⟨m + 2 - (i + 1), by omega, i + 1, w2 ++ [(Wl.getD i 0 + v.getD i 0 + back) % 18446744073709551616], (Wl.getD i 0 + v.getD i 0 + back) / 18446744073709551616, ?_⟩
    (repeat' apply And.intro) <;> first | rfl | exact key3 | exact hb3 | exact lim_snoc hlw2 (Nat.mod_lt _ (by decide)) | (simp [hw2]; done) | omega | assumption
   ·have hi' : i = m + 2 := by omega
    subst hi'
    rw [List.take_of_length_le (l := v) (by omega)] at hinv2
    refine xRF (jn h0 (jn h5 (jn h6 (jn h21 (jn h166 (jn h167 (jn h168 g))))))) ?_
    refine ⟨w2, back, ?_⟩
    exact yA
  rintro ⟨ρ4, σ, c4⟩ ⟨w2, back, hw2, hlw2, hba, hinv2, h0, h5, h6, h21, hσ, hc4⟩
  dsimp only at h0 h5 h6 h21 hσ hc4
  subst hσ
  have hwx := val_take' 18446744073709551616 Wl (m + 2)
  rw [List.take_of_length_le (show Wl.length ≤ m + 2 + 1 by omega)] at hwx
  have hget3 : ((A ++ (w2 ++ Wl.drop (m + 2))) ++ D).getD (A.length + (m + 2)) 0 = Wl.getD (m + 2) 0 := by rw [getD_mid _ _ _ _ (by simp; omega), getD_snoc_drop hw2 (by omega)]
  have hset3 : ∀ d, ((A ++ (w2 ++ Wl.drop (m + 2))) ++ D).set (A.length + (m + 2)) d = (A ++ (w2 ++ [d])) ++ D := fun d => by
   rw [set_mid _ _ _ _ _ (by simp; omega), set_snoc_drop hw2 (by omega), List.drop_of_length_le (by omega), List.append_nil]
  have hlen3 : ((A ++ (w2 ++ Wl.drop (m + 2))) ++ D).length = A.length + (m + 3) + D.length := by simp; omega
  have key3 := add_last hw2 hinv2 hwx
  refine xRF (jn h0 (jn h5 (jn h6 (jn h21 (jn hget3 (jn hset3 hlen3)))))) ?_
  have hl3 : Lim 18446744073709551616 (w2 ++ [(Wl.getD (m + 2) 0 + back) % 18446744073709551616]) := lim_snoc hlw2 (Nat.mod_lt _ (by decide))
  have hn3 : (w2 ++ [(Wl.getD (m + 2) 0 + back) % 18446744073709551616]).length = m + 3 := by simp; omega
  have hlt3 := val_lt hl3
  rw [hn3] at hlt3
  have hc3 : (Wl.getD (m + 2) 0 + back) / 18446744073709551616 = 0 ∨ (Wl.getD (m + 2) 0 + back) / 18446744073709551616 = 1 := by omega
  have hfin : val 18446744073709551616 (w2 ++ [(Wl.getD (m + 2) 0 + back) % 18446744073709551616]) = val 18446744073709551616 u % val 18446744073709551616 v := by
   rw [e23] at hlt3
   exact back_end (key3.trans r2) hlt3 hc3
  exact ⟨by rw [r1, Nat.add_sub_cancel], _, rfl, hn3, hl3, hfin⟩
theorem guess_sub (t : Nat) (tv : Tok) (A u D v : List Nat) (m c : Nat) (cap : Option Nat) (hu : Lim 18446744073709551616 u) (hv : Lim 18446744073709551616 v) (hun : u.length = m + 3) (hvn : v.length = m + 2) (hV0 : 0 < val 18446744073709551616 v) (hUlt : val 18446744073709551616 u < 18446744073709551616 ^ (m + 3))
  (hlen : A.length + D.length + m ≤ 4398046511104) (q : Nat) (hq : q < 18446744073709551616) (hQ : val 18446744073709551616 u / val 18446744073709551616 v ≤ q) (hq1 : q ≤ val 18446744073709551616 u / val 18446744073709551616 v + 1)
  (ρ2 : Nat → V) (c2 : Nat) (h0 : ρ2 0 = .buf t A.length (m + 3) cap 1) (h1 : ρ2 1 = nats tv v) (h5 : ρ2 5 = iv ((m + 2 : Nat) : Int)) (h6 : ρ2 6 = nv q) (hc2 : c ≤ c2) :
  VWP Tryz.prog c R1g (retL R.div_guess fun r σ' c' => c ≤ c' ∧ GPost t A u D v m r (lentσ (supd noBlk t (nblk ((A ++ u) ++ D))) σ') c') ⟨ρ2, supd noBlk t (nblk ((A ++ u) ++ D)), c2⟩ := by
 unfold R1g C.div_guess
 simp only [VCrest]
 refine xRF (jn h1 hvn) ?_
 refine v_loop (fun S => ∃ w carry bo, w.length = m + 2 ∧ Lim 18446744073709551616 w ∧ carry < 18446744073709551616 ∧ bo ≤ 1 ∧ val 18446744073709551616 w + val 18446744073709551616 v * q = val 18446744073709551616 (u.take (m + 2)) + 18446744073709551616 ^ (m + 2) * (carry + bo) ∧ S.ρ 0 = .buf t A.length (m + 3) cap 1 ∧ S.ρ 1 = nats tv v ∧ S.ρ 5 = iv ((m + 2 : Nat) : Int) ∧ S.ρ 6 = nv q ∧ S.ρ 13 = nv carry ∧ S.ρ 14 = nv bo ∧ S.σ = supd noBlk t (nblk ((A ++ (w ++ u.drop (m + 2))) ++ D)) ∧ c ≤ S.c) ?_ ?_
 ·refine vwp_loop (fun k S => ∃ i w carry bo, k = m + 2 - i ∧ i ≤ m + 2 ∧ w.length = i ∧ Lim 18446744073709551616 w ∧ carry < 18446744073709551616 ∧ bo ≤ 1 ∧ val 18446744073709551616 w + val 18446744073709551616 (v.take i) * q = val 18446744073709551616 (u.take i) + 18446744073709551616 ^ i * (carry + bo) ∧ S.ρ 0 = .buf t A.length (m + 3) cap 1 ∧ S.ρ 1 = nats tv v ∧ S.ρ 5 = iv ((m + 2 : Nat) : Int) ∧ S.ρ 6 = nv q ∧ S.ρ 13 = nv carry ∧ S.ρ 14 = nv bo ∧ S.ρ 113 = nats tv v ∧ S.ρ 114 = iv ((m + 2 : Nat) : Int) ∧ S.ρ 115 = iv i ∧ S.σ = supd noBlk t (nblk ((A ++ (w ++ u.drop i)) ++ D)) ∧ c ≤ S.c) (m + 2) ?_ ?_
  ·refine ⟨0, [], 0, 0, by omega, by omega, ?_⟩
   refine xSF (jn h0 (jn h1 (jn h5 h6))) ?_
   (repeat' apply And.intro) <;> first | rfl | omega | assumption | exact Lim.nil | (simp [val]; done) | (rw [List.nil_append, List.drop_zero])
  rintro k ⟨ρ3, σ, c3⟩ ⟨i, w, carry, bo, hk, hi, hw, hlw, hca, hbo, hinv, h0, h1, h5, h6, h13, h14, h113, h114, h115, hσ, hc3⟩
  dsimp only at h0 h1 h5 h6 h13 h14 h113 h114 h115 hσ hc3
  subst hσ
  by_cases g : (i : Int) < ((m + 2 : Nat) : Int)
  ·have hi' : i < m + 2 := by omega
   have hxi := hv.getD (i := i) (by decide)
   have hyi := hu.getD (i := i) (by decide)
   have hvx := val_take' 18446744073709551616 v i
   have hux := val_take' 18446744073709551616 u i
   have hget : ((A ++ (w ++ u.drop i)) ++ D).getD (A.length + i) 0 = u.getD i 0 := by rw [getD_mid _ _ _ _ (by simp; omega), getD_snoc_drop hw (by omega)]
   have hset : ∀ d, ((A ++ (w ++ u.drop i)) ++ D).set (A.length + i) d = (A ++ ((w ++ [d]) ++ u.drop (i + 1))) ++ D := fun d => by rw [set_mid _ _ _ _ _ (by simp; omega), set_snoc_drop hw (by omega)]
   have hlen2 : ((A ++ (w ++ u.drop i)) ++ D).length = A.length + (m + 3) + D.length := by simp; omega
   obtain ⟨e1, e2⟩ := mul_step (v.getD i 0) q carry
   have e3 := mul_step_lt hxi hq hca
   have e4 := Nat.mod_eq_of_lt e3
   refine xRF (jn h0 (jn h1 (jn h5 (jn h6 (jn h13 (jn h14 (jn h113 (jn h114 (jn h115 (jn g hvn)))))))))) ?_
   refine s_call (mul64_spec (v.getD i 0) q c3 hxi hq) (yMF h6) ?_
   rintro v1 c4 hc4 rfl
   refine xRF (jn h0 (jn h1 (jn h5 (jn h6 (jn h13 (jn h14 (jn h113 (jn h114 (jn h115 (jn @Nat.add_zero (jn e1 (jn e2 (jn e4 (jn hget (jn hset hlen2))))))))))))))) ?_
   have hdm := Nat.div_add_mod (v.getD i 0 * q + carry) 18446744073709551616
   have hsm := Nat.mod_lt (v.getD i 0 * q + carry) (show 0 < 18446744073709551616 by decide)
   generalize (v.getD i 0 * q + carry) % 18446744073709551616 = s at *
   generalize (v.getD i 0 * q + carry) / 18446744073709551616 = cc at *
   generalize u.getD i 0 = yy at *
   have hb1 : (if yy < s + bo then 1 else 0) ≤ 1 := by split <;> omega
   have key := msub_step (b := 18446744073709551616) (bo' := if yy < s + bo then 1 else 0) (d := (yy + 18446744073709551616 - s - bo) % 18446744073709551616) (y := yy) hw hinv (by omega : v.getD i 0 * q + carry = s + 18446744073709551616 * cc) (by split <;> omega)
   rw [← hvx, ← hux] at key
   refine ⟨m + 2 - (i + 1), by omega, i + 1, w ++ [(yy + 18446744073709551616 - s - bo) % 18446744073709551616], cc, if yy < s + bo then 1 else 0, ?_⟩
   (repeat' apply And.intro) <;> first | rfl | omega | assumption | (simp [hw]; done) | exact lim_snoc hlw (Nat.mod_lt _ (by decide)) | exact key
  ·have hi' : i = m + 2 := by omega
   subst hi'
   rw [List.take_of_length_le (l := v) (by omega)] at hinv
   refine xRF (jn h0 (jn h1 (jn h5 (jn h6 (jn h13 (jn h14 (jn h113 (jn h114 (jn h115 g))))))))) ?_
   refine ⟨w, carry, bo, ?_⟩
   exact yA
 rintro ⟨ρ3, σ, c3⟩ ⟨w, carry, bo, hw, hlw, hca, hbo, hinv, h0, h1, h5, h6, h13, h14, hσ, hc3⟩
 dsimp only at h0 h1 h5 h6 h13 h14 hσ hc3
 subst hσ
 exact guess_end t tv A u D v m c cap hu hv hun hvn hV0 hUlt hlen q hq hQ hq1 ρ3 c3 w carry bo hw hlw hca hbo hinv h0 h1 h5 h6 h13 h14 hc3
theorem guess_spec (t : Nat) (tv : Tok) (A u D v : List Nat) (m c : Nat) (cap : Option Nat) (hu : Lim 18446744073709551616 u) (hv : Lim 18446744073709551616 v) (hun : u.length = m + 3) (hvn : v.length = m + 2) (hnorm : 9223372036854775808 ≤ v.getD (m + 1) 0) (hlt : val 18446744073709551616 u < val 18446744073709551616 v * 18446744073709551616)
  (hlen : A.length + D.length + m ≤ 4398046511104) :
  VSpecL Tryz.prog F.div_guess c (supd noBlk t (nblk ((A ++ u) ++ D))) [.buf t A.length (m + 3) cap 1, nats tv v] (GPost t A u D v m) := by
 refine sL hm G.div_guess ?_
 unfold C.div_guess R.div_guess cD
 have hL : ∀ u' : List Nat, u'.length = m + 3 → ((A ++ u') ++ D).length = A.length + (m + 3) + D.length := fun u' h => by simp [h]; omega
 have g2 : ((A ++ u) ++ D).getD (A.length + (m + 2)) 0 = u.getD (m + 2) 0 := getD_mid _ _ _ _ (by omega)
 have g1 : ((A ++ u) ++ D).getD (A.length + (m + 1)) 0 = u.getD (m + 1) 0 := getD_mid _ _ _ _ (by omega)
 have g0 : ((A ++ u) ++ D).getD (A.length + m) 0 = u.getD m 0 := getD_mid _ _ _ _ (by omega)
 have eU := val_three (b := 18446744073709551616) hun
 have eV := val_two (b := 18446744073709551616) hvn
 have htop := top_le (b := 18446744073709551616) (by decide) (n := m + 2) hun hvn (by omega) hv hlt
 rw [show m + 2 - 1 = m + 1 by omega] at htop
 have hlU := take_lt (m := m) hu (by omega)
 have hlV := take_lt (m := m) hv (by omega)
 have hx := hu.getD (i := m + 2) (by decide)
 have hy := hu.getD (i := m + 1) (by decide)
 have hz := hu.getD (i := m) (by decide)
 have hvh := hv.getD (i := m + 1) (by decide)
 have hvl := hv.getD (i := m) (by decide)
 have hUlt := val_lt hu
 have hVlt := val_lt hv
 rw [hun] at hUlt
 have hLu := hL u hun
 have i1 : ((m + 2 : Nat) : Int) - 1 = ((m + 1 : Nat) : Int) := by omega
 have i2 : ((m + 2 : Nat) : Int) - 2 = ((m : Nat) : Int) := by omega
 generalize hxe : u.getD (m + 2) 0 = x at *
 generalize hye : u.getD (m + 1) 0 = y at *
 generalize hze : u.getD m 0 = z at *
 generalize hvhe : v.getD (m + 1) 0 = vh at *
 generalize hvle : v.getD m 0 = vl at *
 obtain ⟨T, hT⟩ : ∃ T, T = z + 18446744073709551616 * (y + 18446744073709551616 * x) := ⟨_, rfl⟩
 obtain ⟨W, hW⟩ : ∃ W, W = vl + 18446744073709551616 * vh := ⟨_, rfl⟩
 rw [← hT] at eU
 rw [← hW] at eV
 have hW0 : 18446744073709551616 ≤ W := by omega
 have hV0 : 0 < val 18446744073709551616 v := by
  have : 0 < 18446744073709551616 ^ m * W := Nat.mul_pos (Nat.pow_pos (by decide)) (by omega)
  omega
 have hQT := est_top eU hlU eV (by omega)
 have hQB : val 18446744073709551616 u / val 18446744073709551616 v < 18446744073709551616 := by rw [Nat.div_lt_iff_lt_mul hV0, Nat.mul_comm]; exact hlt
 obtain ⟨Qq, hQq⟩ : ∃ Qq, Qq = val 18446744073709551616 u / val 18446744073709551616 v := ⟨_, rfl⟩
 rw [← hQq] at hQT hQB
 refine xG ?_
 refine xGF hvn ?_
 refine xG ?_
 refine xG ?_
 refine v_cut (fun S => ∃ q r sure, S.ρ 0 = .buf t A.length (m + 3) cap 1 ∧ S.ρ 1 = nats tv v ∧ S.ρ 5 = iv ((m + 2 : Nat) : Int) ∧ S.ρ 6 = nv q ∧ S.ρ 7 = nv r ∧ S.ρ 8 = bv sure ∧ S.σ = supd noBlk t (nblk ((A ++ u) ++ D)) ∧ c ≤ S.c ∧ q < 18446744073709551616 ∧ r < 18446744073709551616 ∧ Qq ≤ q ∧ (sure = false → q * vh + r = y + 18446744073709551616 * x) ∧ (sure = true → q * W ≤ T)) ?_ ?_
 ·by_cases gx : vh ≤ x
  ·have hxv : x = vh := by omega
   have ee : (18446744073709551616 - 1) * vh + (y + vh) = y + 18446744073709551616 * x := by rw [hxv]; omega
   by_cases go : y + vh < 18446744073709551616
   ·have eo : (y + vh) / 18446744073709551616 = 0 := Nat.div_eq_of_lt go
    have em : (y + vh) % 18446744073709551616 = y + vh := Nat.mod_eq_of_lt go
    refine xRF (jn hvn (jn i1 (jn g2 (jn g1 (jn hLu (jn hvhe (jn gx (jn eo (jn em @Nat.add_zero))))))))) ?_
    refine ⟨18446744073709551615, y + vh, false, ?_⟩
    (repeat' apply And.intro) <;> first | rfl | omega | assumption | exact fun _ => ee | (intro h; cases h)
   ·have eo : (y + vh) / 18446744073709551616 = 1 := by omega
    have hb := knuth_big hT hW ee (by decide) (Nat.le_of_lt hvl) (by omega)
    refine xRF (jn hvn (jn i1 (jn g2 (jn g1 (jn hLu (jn hvhe (jn gx (jn eo @Nat.add_zero)))))))) ?_
    refine ⟨18446744073709551615, (y + vh) % 18446744073709551616, true, ?_⟩
    (repeat' apply And.intro) <;> first | rfl | omega | assumption | exact Nat.mod_lt _ (by decide) | (intro h; cases h; done) | exact fun _ => hb
  ·have gx' : ¬ vh ≤ x := gx
   refine xRF (jn hvn (jn i1 (jn g2 (jn g1 (jn hLu (jn hvhe gx')))))) ?_
   have en : x * 18446744073709551616 + y = y + 18446744073709551616 * x := by omega
   refine s_call (div64_spec x y vh c hy hvh (by omega)) yM ?_
   rintro v1 c2 hc2 rfl
   rw [en]
   have hdm := Nat.div_add_mod (y + 18446744073709551616 * x) vh
   have hmod := Nat.mod_lt (y + 18446744073709551616 * x) (show 0 < vh by omega)
   have hqb : (y + 18446744073709551616 * x) / vh < 18446744073709551616 := by rw [← en]; exact dig_lt (by omega) hy
   have hup := kd_up (n := y + 18446744073709551616 * x) (b := 18446744073709551616) (u := z) (v := W) (v1 := vh) (v0 := vl) (by decide) hz (by omega) (by omega)
   have eT : (y + 18446744073709551616 * x) * 18446744073709551616 + z = T := by rw [hT, Nat.mul_comm, Nat.add_comm]
   rw [eT] at hup
   rw [Nat.mul_comm vh] at hdm
   generalize (y + 18446744073709551616 * x) / vh = q at *
   generalize (y + 18446744073709551616 * x) % vh = r at *
   refine xRF (jn hvn (jn i1 (jn g2 (jn g1 (jn hLu (jn hvhe gx')))))) ?_
   refine ⟨q, r, false, ?_⟩
   (repeat' apply And.intro) <;> first | rfl | omega | assumption | exact fun _ => hdm | (intro h; cases h)
 rintro ⟨ρ1, σ, c1⟩ ⟨q0, r0, sure0, h0, h1, h5, h6, h7, h8, hσ, hc1, hq0, hr0, hQ0, hs0, ht0⟩
 dsimp only at h0 h1 h5 h6 h7 h8 hσ hc1
 subst hσ
 (repeat (first | refine vwp_seq ?_ | refine vwp_block ?_))
 refine v_loop (fun S => ∃ q, S.ρ 0 = .buf t A.length (m + 3) cap 1 ∧ S.ρ 1 = nats tv v ∧ S.ρ 5 = iv ((m + 2 : Nat) : Int) ∧ S.ρ 6 = nv q ∧ S.σ = supd noBlk t (nblk ((A ++ u) ++ D)) ∧ c ≤ S.c ∧ q < 18446744073709551616 ∧ Qq ≤ q ∧ q * W ≤ T) ?_ ?_
 ·refine vwp_loop (fun k S => ∃ q r sure, k = q ∧ S.ρ 0 = .buf t A.length (m + 3) cap 1 ∧ S.ρ 1 = nats tv v ∧ S.ρ 5 = iv ((m + 2 : Nat) : Int) ∧ S.ρ 6 = nv q ∧ S.ρ 7 = nv r ∧ S.ρ 8 = bv sure ∧ S.σ = supd noBlk t (nblk ((A ++ u) ++ D)) ∧ c ≤ S.c ∧ q < 18446744073709551616 ∧ r < 18446744073709551616 ∧ Qq ≤ q ∧ (sure = false → q * vh + r = y + 18446744073709551616 * x) ∧ (sure = true → q * W ≤ T)) q0 ?_ ?_
  ·exact ⟨q0, r0, sure0, rfl, h0, h1, h5, h6, h7, h8, rfl, hc1, hq0, hr0, hQ0, hs0, ht0⟩
  rintro k ⟨ρ2, σ, c2⟩ ⟨q, r, sure, hk, h0, h1, h5, h6, h7, h8, hσ, hc2, hq, hr, hQ, hs, ht⟩
  dsimp only at h0 h1 h5 h6 h7 h8 hσ hc2
  subst hσ
  cases sure with
  | true =>
   refine xRF (jn h0 (jn h1 (jn h5 (jn h6 (jn h7 h8))))) ?_
   exact ⟨q, rfl, hc2, hq, hQ, ht rfl⟩
  | false =>
   have he := hs rfl
   refine xRF (jn h0 (jn h1 (jn h5 (jn h6 (jn h7 (jn h8 (jn i1 (jn i2 hvle)))))))) ?_
   refine s_call (mul64_spec q vl c2 hq hvl) yM ?_
   rintro v1 c3 hc3 rfl
   have hcmp := pair_le (B := 18446744073709551616) (p := q * vl) (r := r) (z := z) (by decide) hz
   have fin : q * vl ≤ r * 18446744073709551616 + z → q * W ≤ T := fun h => knuth_ok hT hW he h
   have hno : ¬ q * vl ≤ r * 18446744073709551616 + z → 0 < q ∧ Qq ≤ q - 1 := fun h => by
    have h1 := knuth_no hT hW he (by omega)
    have h2 : T / W < q := by rw [Nat.div_lt_iff_lt_mul (by omega)]; exact h1
    omega
   by_cases k1 : q * vl / 18446744073709551616 < r
   ·have := fin (hcmp.2 (.inl k1))
    refine xRF (jn h0 (jn h1 (jn h5 (jn h6 (jn h7 (jn h8 (jn i1 (jn i2 k1)))))))) ?_
    exact ⟨q, rfl, by omega, hq, hQ, this⟩
   by_cases k2 : q * vl / 18446744073709551616 = r
   ·by_cases k3 : q * vl % 18446744073709551616 ≤ z
    ·have := fin (hcmp.2 (.inr ⟨k2, k3⟩))
     refine xRF (jn h0 (jn h1 (jn h5 (jn h6 (jn h7 (jn h8 (jn i1 (jn i2 (jn k1 (jn k2 (jn k3 (jn g0 (jn hLu @Nat.lt_irrefl))))))))))))) ?_
     exact ⟨q, rfl, by omega, hq, hQ, this⟩
    ·have hn : ¬ q * vl ≤ r * 18446744073709551616 + z := fun h => by rcases hcmp.1 h with h | ⟨_, h⟩ <;> omega
     obtain ⟨hq1, hQ1⟩ := hno hn
     have hnx := kd_next hq1 he
     have hd := dec_mod64 hq1 hq
     by_cases go : r + vh < 18446744073709551616
     ·have eo : (r + vh) / 18446744073709551616 = 0 := Nat.div_eq_of_lt go
      have em : (r + vh) % 18446744073709551616 = r + vh := Nat.mod_eq_of_lt go
      refine xRF (jn h0 (jn h1 (jn h5 (jn h6 (jn h7 (jn h8 (jn i1 (jn i2 (jn k1 (jn k2 (jn k3 (jn g0 (jn hLu (jn @Nat.lt_irrefl (jn hd (jn hvhe (jn eo (jn em @Nat.add_zero)))))))))))))))))) ?_
      exact ⟨q - 1, by omega, q - 1, r + vh, false, rfl, rfl, rfl, rfl, by omega, by omega, go, hQ1, fun _ => hnx, fun h => (by cases h)⟩
     ·have eo : (r + vh) / 18446744073709551616 = 1 := by omega
      have hb := knuth_big hT hW hnx (by omega) (Nat.le_of_lt hvl) (by omega)
      refine xRF (jn h0 (jn h1 (jn h5 (jn h6 (jn h7 (jn h8 (jn i1 (jn i2 (jn k1 (jn k2 (jn k3 (jn g0 (jn hLu (jn @Nat.lt_irrefl (jn hd (jn hvhe (jn eo @Nat.add_zero))))))))))))))))) ?_
      exact ⟨q - 1, rfl, by omega, by omega, hQ1, hb⟩
   ·have hn : ¬ q * vl ≤ r * 18446744073709551616 + z := fun h => by rcases hcmp.1 h with h | ⟨h, _⟩ <;> omega
    obtain ⟨hq1, hQ1⟩ := hno hn
    have hnx := kd_next hq1 he
    have hd := dec_mod64 hq1 hq
    by_cases go : r + vh < 18446744073709551616
    ·have eo : (r + vh) / 18446744073709551616 = 0 := Nat.div_eq_of_lt go
     have em : (r + vh) % 18446744073709551616 = r + vh := Nat.mod_eq_of_lt go
     refine xRF (jn h0 (jn h1 (jn h5 (jn h6 (jn h7 (jn h8 (jn i1 (jn i2 (jn k1 (jn k2 (jn g0 (jn hLu (jn @Nat.lt_irrefl (jn hd (jn hvhe (jn eo (jn em @Nat.add_zero))))))))))))))))) ?_
     exact ⟨q - 1, by omega, q - 1, r + vh, false, rfl, rfl, rfl, rfl, by omega, by omega, go, hQ1, fun _ => hnx, fun h => (by cases h)⟩
    ·have eo : (r + vh) / 18446744073709551616 = 1 := by omega
     have hb := knuth_big hT hW hnx (by omega) (Nat.le_of_lt hvl) (by omega)
     refine xRF (jn h0 (jn h1 (jn h5 (jn h6 (jn h7 (jn h8 (jn i1 (jn i2 (jn k1 (jn k2 (jn g0 (jn hLu (jn @Nat.lt_irrefl (jn hd (jn hvhe (jn eo @Nat.add_zero)))))))))))))))) ?_
     exact ⟨q - 1, rfl, by omega, by omega, hQ1, hb⟩
 rintro ⟨ρ2, σ, c2⟩ ⟨q, h0, h1, h5, h6, hσ, hc2, hq, hQ, hqW⟩
 dsimp only at h0 h1 h5 h6 hσ hc2
 subst hσ
 have hq1 := est_low (q := q) eU eV hlV hqW (Nat.le_of_lt hq) hW0 hV0
 exact guess_sub t tv A u D v m c cap hu hv hun hvn hV0 hUlt hlen q hq (by omega) hq1 ρ2 c2 h0 h1 h5 h6 hc2

def Kn (c : Nat) (t : Tok) : Prop := t = .nil ∨ ∃ i, (t = .id i ∨ t = .sub i) ∧ i < c
theorem Kn.thaw {c t : Nat} {tk : Tok} (h : Kn c tk) (hc : c ≤ t) (l : List Nat) : V.thaw t (nats tk l) = nats tk l := by
 rcases h with rfl | ⟨i, rfl | rfl, hi⟩
 ·exact thaw_nil t l
 ·exact thaw_id (by omega) l
 ·exact thaw_sub (by omega) l
theorem Kn.mono {c d : Nat} {t : Tok} (h : Kn c t) (hc : c ≤ d) : Kn d t := by
 rcases h with rfl | ⟨i, h, hi⟩
 ·exact .inl rfl
 ·exact .inr ⟨i, h, by omega⟩
theorem Tk.kn {c c' : Nat} {t : Tok} (h : Tk c c' t) : Kn c' t := by
 rcases h with rfl | ⟨i, rfl, _, hi⟩
 ·exact .inl rfl
 ·exact .inr ⟨i, .inl rfl, hi⟩

theorem divide_spec (t u : Tok) (x y c : Nat) (ht : Kn c t) (hy : 0 < y) (hnx : (digs 18446744073709551616 x).length ≤ 1099511627776) (hny : (digs 18446744073709551616 y).length ≤ 1099511627776) :
  VSpec Tryz.prog F.div_divide c [nats t (digs 18446744073709551616 x), nats u (digs 18446744073709551616 y)] (fun r c' => ∃ t1 t2, r = .tup [nats t1 (digs 18446744073709551616 (x / y)), nats t2 (digs 18446744073709551616 (x % y))] ∧ Tk c c' t1 ∧ (Tk c c' t2 ∨ t2 = t)) := by
 refine sG hm G.div_divide ?_
 unfold C.div_divide R.div_divide cD
 have hla := lim_digs two64 x
 have hlb := lim_digs two64 y
 have va := val_digs two64 x
 have vb := val_digs two64 y
 refine xR ?_
 refine s_call (compare_spec t u _ _ c hla hlb (by omega) (by omega)) yM ?_
 rintro v c1 hc1 rfl
 rw [va, vb]
 have hcmp : cmpI x y < 0 ↔ x < y := by unfold cmpI; split <;> (try split) <;> omega
 by_cases gc : cmpI x y < 0
 ·refine xRF gc ?_
  rw [hcmp] at gc
  rw [Nat.div_eq_of_lt gc, Nat.mod_eq_of_lt gc]
  exact ⟨.nil, t, rfl, .inl rfl, .inr rfl⟩
 have hxy : y ≤ x := by rw [hcmp] at gc; omega
 have hlen : (digs 18446744073709551616 y).length ≤ (digs 18446744073709551616 x).length := le_len two64 hxy
 have hy1 : 0 < (digs 18446744073709551616 y).length := by
  rcases Nat.eq_zero_or_pos (digs 18446744073709551616 y).length with h | h
  ·have := (digs_eq_nil two64).1 (List.eq_nil_of_length_eq_zero h); omega
  ·exact h
 by_cases g1 : ((digs 18446744073709551616 y).length : Int) = 1
 ·have g1' : (digs 18446744073709551616 y).length = 0 + 1 := by omega
  obtain ⟨q1, q2⟩ := digs_top two64 g1'
  rw [List.take_zero, val, Nat.pow_zero, Nat.one_mul, Nat.zero_add] at q2
  have hyl := hlb.getD (i := 0) (by decide)
  rw [← q2] at hyl
  generalize digs 18446744073709551616 x = xs at *
  generalize digs 18446744073709551616 y = ys at *
  have g1n : (ys.length : Int) = 1 := g1
  refine xRF (jn gc g1) ?_
  refine s_mk (n := xs.length) (m := xs.length) yS yS (Nat.le_refl _) (by omega) ?_
  refine xR ?_
  refine v_loop (fun S => ∃ w, w.length = xs.length ∧ Lim 18446744073709551616 w ∧ val 18446744073709551616 w = x / y ∧ S.ρ 6 = .buf c1 0 xs.length (some xs.length) 1 ∧ S.ρ 7 = nv (x % y) ∧ S.σ = supd noBlk c1 (nblk w) ∧ c1 + 1 ≤ S.c) ?_ ?_
  ·refine vwp_loop (fun k S => ∃ w rest, k ≤ xs.length ∧ w.length = xs.length - k ∧ Lim 18446744073709551616 w ∧ val 18446744073709551616 w * y + rest = val 18446744073709551616 (xs.drop k) ∧ rest < y ∧ S.ρ 0 = nats t xs ∧ S.ρ 1 = nats u ys ∧ S.ρ 6 = .buf c1 0 xs.length (some xs.length) 1 ∧ S.ρ 7 = nv rest ∧ S.ρ 8 = iv ((k : Int) - 1) ∧ S.σ = supd noBlk c1 (nblk (List.replicate k 0 ++ w)) ∧ c1 + 1 ≤ S.c) xs.length ?_ ?_
   ·refine ⟨[], 0, Nat.le_refl _, ?_⟩
    simp only [vm, ite_true, ite_false, eq_self, reduceIte, Nat.reduceEqDiff, Option.map, List.drop_length]
    (repeat' apply And.intro) <;> first | rfl | omega | assumption | exact Lim.nil | (simp [val]; done)
   rintro k ⟨ρ2, σ, c4⟩ ⟨w, rest, hk, hw, hlw, hinv, hr, h0, h1, h6, h7, h8, hσ, hc4⟩
   dsimp only at h0 h1 h6 h7 h8 hσ hc4
   subst hσ
   rcases Nat.eq_zero_or_pos k with rfl | hkp
   ·have g : ¬ (0 : Int) ≤ ((0 : Nat) : Int) - 1 := by omega
    refine xRF (jn h8 g) ?_
    rw [List.drop_zero, va] at hinv
    obtain ⟨e1, e2⟩ := div_mod_of hinv hr
    refine ⟨w, ?_⟩
    rw [e1, e2]
    exact yA
   ·obtain ⟨i, rfl⟩ : ∃ i, k = i + 1 := ⟨k - 1, by omega⟩
    have e1 : (((i + 1 : Nat) : Int) - 1) = (i : Int) := by omega
    have g : (0 : Int) ≤ (i : Int) := by omega
    rw [e1] at h8
    have hset : ∀ v, (List.replicate (i + 1) 0 ++ w).set i v = List.replicate i 0 ++ (v :: w) := fun v => set_top w i v
    have hlen2 : (List.replicate (i + 1) 0 ++ w).length = xs.length := by simp; omega
    have hxi := hla.getD (i := i) (by decide)
    have hq := dig_lt hr hxi
    have hdm := Nat.div_add_mod (rest * 18446744073709551616 + xs.getD i 0) y
    have hrm := Nat.mod_lt (rest * 18446744073709551616 + xs.getD i 0) hy
    obtain ⟨q, hqd⟩ : ∃ q, q = (rest * 18446744073709551616 + xs.getD i 0) / y := ⟨_, rfl⟩
    obtain ⟨r, hrd⟩ : ∃ r, r = (rest * 18446744073709551616 + xs.getD i 0) % y := ⟨_, rfl⟩
    rw [← hqd, ← hrd, Nat.mul_comm] at hdm
    rw [← hqd] at hq
    rw [← hrd] at hrm
    have key := thr_step hinv hdm
    rw [← val_drop (l := xs) (i := i) (by omega)] at key
    have hz : (0 : Int).toNat = 0 := rfl
    (repeat (first | refine v_reg ?_ | refine v_last ?_ | refine vwp_seq ?_ | refine vwp_block ?_ | refine vwp_skip ?_ | refine vwp_exit ?_ | refine vwp_ret ?_ | refine v_cond ?_ | simp only [vm, ite_true, ite_false, eq_self, reduceIte, Nat.reduceEqDiff, Option.map, h0, h1, h6, h7, h8, g, g1', hz, ← q2] | refine And.intro (by omega) ?_))
    refine s_call (div64_spec rest (xs.getD i 0) y c4 hxi hyl hr) (yMF (jn h0 (jn h1 (jn h6 (jn h7 h8))))) ?_
    rintro v c5 hc5 rfl
    rw [← hqd, ← hrd]
    refine xRF (jn h0 (jn h1 (jn h6 (jn h7 (jn h8 (jn hset hlen2)))))) ?_
    refine ⟨i, by omega, q :: w, r, ?_⟩
    (repeat' apply And.intro) <;> first | rfl | omega | assumption | (simp [hw]; omega) | exact Lim.cons hq hlw | exact key
  rintro ⟨ρ3, σ, c5⟩ ⟨w, hw, hlw, hvw, h6, h7, hσ, hc5⟩
  dsimp only at h6 h7 hσ hc5
  subst hσ
  refine v_freeze 6 (t := c1) (off := 0) (n := xs.length) (cap := some xs.length) (l := w) (ySF h6) yS (by omega) (by omega) ?_
  rw [List.drop_zero, show w.take xs.length = w from List.take_of_length_le (by omega)]
  refine xRF h7 ?_
  refine s_call (norm_spec (.id c1) w c5 hlw (by omega)) yM ?_
  rintro v c6 hc6 ⟨t6, rfl, ht6⟩
  rw [hvw]
  refine xRF h7 ?_
  refine s_call (from_spec (x % y) c6 (by have := Nat.mod_lt x hy; omega)) (yMF h7) ?_
  rintro v c7 hc7 ⟨t7, rfl, ht7⟩
  refine xR ?_
  exact ⟨t6, t7, rfl, ht6.mono (by omega) (by omega), .inl (ht7.mono (by omega) (by omega))⟩
 -- more than one limb
 obtain ⟨m, hm2⟩ : ∃ m, (digs 18446744073709551616 y).length = m + 2 := ⟨(digs 18446744073709551616 y).length - 2, by omega⟩
 obtain ⟨s, hs⟩ : ∃ s, s = 64 - bl ((digs 18446744073709551616 y).getD (m + 1) 0) := ⟨_, rfl⟩
 obtain ⟨q1, q2, q3⟩ := norm_val (m := m + 1) hm2 hs
 have htl := hlb.getD (i := m + 1) (by decide)
 have hbtop := bl_le (n := (digs 18446744073709551616 y).getD (m + 1) 0) (k := 64) htl
 have hyv : 18446744073709551616 ^ (m + 1) ≤ y := by
  obtain ⟨p1, p2⟩ := digs_top (m := m + 1) two64 hm2
  have : 18446744073709551616 ^ (m + 1) * 1 ≤ 18446744073709551616 ^ (m + 1) * (digs 18446744073709551616 y).getD (m + 1) 0 := Nat.mul_le_mul_left _ (by omega)
  omega
 have hxv : x < 18446744073709551616 ^ (digs 18446744073709551616 x).length := by have := val_lt hla; rwa [va] at this
 generalize digs 18446744073709551616 x = xs at *
 generalize hys : digs 18446744073709551616 y = ys at *
 have i1 : ((m + 2 : Nat) : Int) - 1 = ((m + 1 : Nat) : Int) := by omega
 have gm : ¬ ((m + 2 : Nat) : Int) = 1 := by omega
 refine xRF (jn gc (jn hm2 (jn gm i1))) ?_
 refine s_call (lz64_spec _ c1 htl) yM ?_
 rintro v c2 hc2 rfl
 have es : ((64 : Int) - (bl (ys.getD (m + 1) 0) : Int)).toNat = s := by omega
 refine xRF es ?_
 refine s_call (up_spec t xs s c2 hla q1 (by omega)) yM ?_
 rintro v c3 hc3 ⟨lu, iu, rfl, hu1, hu2, hlu, hun, hvu⟩
 refine xRF hm2 ?_
 refine s_call (up_spec u ys s c3 hlb q1 (by omega)) yM ?_
 rintro v c4 hc4 ⟨lv, iv2, rfl, hv1, hv2, hlv, hvn, hvv⟩
 rw [va] at hvu
 rw [vb] at hvv
 rw [hm2] at hvn
 have hcut := top_zero (b := 18446744073709551616) (n := m + 2) (by decide) hvn (by rw [hvv]; exact q2)
 have hvv2 : val 18446744073709551616 (lv.take (m + 2)) = y * 2 ^ s := by
  have : val 18446744073709551616 lv = val 18446744073709551616 (lv.take (m + 2)) := by conv => lhs; rw [hcut, val_snoc0]
  omega
 have hlvt : Lim 18446744073709551616 (lv.take (m + 2)) := hlv.take
 have hvtn : (lv.take (m + 2)).length = m + 2 := by simp; omega
 have htop := top_ge (n := m + 1) (k := 9223372036854775808) (by decide) hlvt hvtn (by rw [hvv2]; exact q3)
 have hmm : ((m + 2 : Nat) : Int).toNat = m + 2 := by omega
 refine xSF (jn hm2 hmm) ?_
 refine ⟨by omega, ?_⟩
 generalize lv.take (m + 2) = vv at *
 have hlu0 : lu ≠ [] := by intro e; rw [e] at hun; simp at hun
 have hth0 : ∀ l, V.thaw iu (nats t l) = nats t l := ht.thaw (by omega)
 have hth1 : ∀ l, V.thaw iu (nats (.id iv2) l) = nats (.id iv2) l := thaw_id (by omega)
 refine v_thaw 10 (t := iu) (l := lu) yS (by omega) hlu0 LitB.no ?_
 have eN : (xs.length : Int) - ((m + 2 : Nat) : Int) = ((xs.length - (m + 2) : Nat) : Int) := by omega
 refine xRF (jn hth0 (jn hth1 (jn @thaw_lit (jn hvtn eN)))) ?_
 refine s_mk (n := xs.length - (m + 2) + 1) (m := xs.length - (m + 2) + 1) ySr ySr (Nat.le_refl _) (by omega) ?_
 obtain ⟨N, hN⟩ : ∃ N, N = xs.length - (m + 2) := ⟨_, rfl⟩
 have hNx : xs.length = N + (m + 2) := by omega
 rw [← hN]
 refine xRF (jn hth0 (jn hth1 (jn @thaw_lit (jn hvtn eN)))) ?_
 have hne : iu ≠ c4 := by omega
 have hV0 : 0 < val 18446744073709551616 vv := by rw [hvv2]; exact Nat.mul_pos hy (Nat.two_pow_pos s)
 have hfirst := first_rest (n := m + 2) (s := s) hlu hun hvu hxv (by omega) (by omega) (y := y) (by rw [show m + 2 - 1 = m + 1 by omega]; exact hyv)
 rw [show xs.length - (m + 2) + 1 = N + 1 by omega, ← hvv2] at hfirst
 refine v_loop (fun S => ∃ qs rem, qs.length = N + 1 ∧ rem.length = m + 2 ∧ Lim 18446744073709551616 qs ∧ Lim 18446744073709551616 rem ∧ val 18446744073709551616 qs * val 18446744073709551616 vv + val 18446744073709551616 rem = x * 2 ^ s ∧ val 18446744073709551616 rem < val 18446744073709551616 vv ∧ S.ρ 9 = nv s ∧ S.ρ 12 = iv ((m + 2 : Nat) : Int) ∧ S.ρ 10 = .buf iu 0 lu.length none 1 ∧ S.ρ 13 = .buf c4 0 (N + 1) (some (N + 1)) 1 ∧
   S.σ = supd (supd noBlk iu (nblk (rem ++ List.replicate (N + 1) 0))) c4 (nblk qs) ∧ c4 + 1 ≤ S.c) ?_ ?_
 ·refine vwp_loop (fun k S => ∃ qs rem, k ≤ N + 1 ∧ qs.length = N + 1 - k ∧ rem.length = m + 2 ∧ Lim 18446744073709551616 qs ∧ Lim 18446744073709551616 rem ∧ val 18446744073709551616 qs * val 18446744073709551616 vv + val 18446744073709551616 rem = val 18446744073709551616 (lu.drop k) ∧ val 18446744073709551616 rem < val 18446744073709551616 vv ∧ S.ρ 9 = nv s ∧ S.ρ 11 = nats (.id iv2) vv ∧ S.ρ 12 = iv ((m + 2 : Nat) : Int) ∧ S.ρ 14 = iv ((k : Int) - 1) ∧ S.ρ 10 = .buf iu 0 lu.length none 1 ∧ S.ρ 13 = .buf c4 0 (N + 1) (some (N + 1)) 1 ∧
   S.σ = supd (supd noBlk iu (nblk ((lu.take k ++ rem) ++ List.replicate (N + 1 - k) 0))) c4 (nblk (List.replicate k 0 ++ qs)) ∧ c4 + 1 ≤ S.c) (N + 1) ?_ ?_
  ·refine ⟨[], lu.drop (N + 1), Nat.le_refl _, ?_⟩
   simp only [vm, ite_true, ite_false, eq_self, reduceIte, Nat.reduceEqDiff, Option.map, hth0, hth1, thaw_lit, Nat.sub_self, List.replicate_zero, List.append_nil, List.take_append_drop]
   (repeat' apply And.intro) <;> first | rfl | omega | assumption | (simp; done) | (simp; omega) | exact Lim.nil | exact hlu.drop | (simp [val]; done) | exact hfirst | (congr 1; omega)
  rintro k ⟨ρ2, σ, c5⟩ ⟨qs, rem, hk, hqs, hrem, hlq, hlr, hinv, hrv, h9, h11, h12, h14, h10, h13, hσ, hc5⟩
  dsimp only at h9 h11 h12 h14 h10 h13 hσ hc5
  subst hσ
  rcases Nat.eq_zero_or_pos k with rfl | hkp
  ·have g : ¬ (0 : Int) ≤ ((0 : Nat) : Int) - 1 := by omega
   refine xRF (jn h14 g) ?_
   rw [List.drop_zero, hvu] at hinv
   refine ⟨qs, rem, ?_⟩
   exact yA
  ·obtain ⟨j, rfl⟩ : ∃ j, k = j + 1 := ⟨k - 1, by omega⟩
   have e1 : (((j + 1 : Nat) : Int) - 1) = (j : Int) := by omega
   have g : (0 : Int) ≤ (j : Int) := by omega
   rw [e1] at h14
   have e2 : ((j : Int) + ((m + 2 : Nat) : Int) + 1).toNat - j = m + 3 := by omega
   have hjl : j < lu.length := by omega
   have hwin : (lu.take (j + 1) ++ rem) ++ List.replicate (N + 1 - (j + 1)) 0 = (lu.take j ++ (lu.getD j 0 :: rem)) ++ List.replicate (N + 1 - (j + 1)) 0 := by rw [take_snoc hjl]; simp
   have hjt : (lu.take j).length = j := by simp; omega
   have hlj := hlu.getD (i := j) (by decide)
   have hwv : val 18446744073709551616 (lu.getD j 0 :: rem) < val 18446744073709551616 vv * 18446744073709551616 := by
    have : (val 18446744073709551616 rem + 1) * 18446744073709551616 ≤ val 18446744073709551616 vv * 18446744073709551616 := Nat.mul_le_mul_right _ hrv
    rw [Nat.add_mul, Nat.one_mul] at this
    rw [val, Nat.mul_comm]
    omega
   have hdm := Nat.div_add_mod (val 18446744073709551616 (lu.getD j 0 :: rem)) (val 18446744073709551616 vv)
   have hmod := Nat.mod_lt (val 18446744073709551616 (lu.getD j 0 :: rem)) hV0
   have hqlt : val 18446744073709551616 (lu.getD j 0 :: rem) / val 18446744073709551616 vv < 18446744073709551616 := by rw [Nat.div_lt_iff_lt_mul hV0, Nat.mul_comm]; exact hwv
   have hgs := guess_spec iu (.id iv2) (lu.take j) (lu.getD j 0 :: rem) (List.replicate (N + 1 - (j + 1)) 0) vv m c5 none (.cons hlj hlr) hlvt (by simp; omega) hvtn htop hwv (by simp; omega)
   rw [hjt, ← hwin] at hgs
   have hlen4 : (List.replicate (j + 1) 0 ++ qs).length = N + 1 := by simp; omega
   have hset4 : ∀ v, (List.replicate (j + 1) 0 ++ qs).set j v = List.replicate j 0 ++ (v :: qs) := fun v => set_top qs j v
   have hct : capTop none lu.length = (lu.length : Int) := rfl
   have hnc : ∀ k, newCap none none k = none := fun _ => rfl
   refine xRF (jn h9 (jn h10 (jn h11 (jn h12 (jn h13 (jn h14 (jn g (jn e2 (jn hct hnc))))))))) ?_
   refine s_call1 iu (l := (lu.take (j + 1) ++ rem) ++ List.replicate (N + 1 - (j + 1)) 0) (ySF hne) (fun s hs => by simp only [supd]; rw [if_neg (by omega), if_neg (by omega)]; rfl) hgs (yMF (jn h9 (jn h10 (jn h11 (jn h12 (jn h13 (jn h14 e2))))))) ?_
   rintro v σ' c6 hc6 ⟨rfl, u', hσ', hun', hul', huv'⟩
   have hut := top_zero (b := 18446744073709551616) (n := m + 2) (by decide) hun' (by rw [huv']; have := val_lt hlvt; rw [hvtn] at this; omega)
   have hut2 : val 18446744073709551616 u' = val 18446744073709551616 (u'.take (m + 2)) := by conv => lhs; rw [hut, val_snoc0]
   rw [hσ']
   have hne2 : ¬ c4 = iu := by omega
   have hsw : ∀ a b e d, supd (supd (supd (supd noBlk iu a) c4 b) iu e) c4 d = supd (supd noBlk iu e) c4 d := fun a b e d => by
    funext s
    simp only [supd]
    by_cases k1 : s = c4
    ·simp [k1]
    ·by_cases k2 : s = iu
     ·simp [k1, k2]
     ·simp [k1, k2]
   refine xRF (jn h9 (jn h10 (jn h11 (jn h12 (jn h13 (jn h14 (jn hlen4 (jn hset4 (jn hne2 hsw))))))))) ?_
   have hzz : (lu.take j ++ u') ++ List.replicate (N + 1 - (j + 1)) 0 = (lu.take j ++ u'.take (m + 2)) ++ List.replicate (N + 1 - j) 0 := by
    rw [show N + 1 - j = (N + 1 - (j + 1)) + 1 by omega, List.replicate_succ]
    conv => lhs; rw [hut]
    simp
   rw [hzz]
   refine ⟨j, by omega, val 18446744073709551616 (lu.getD j 0 :: rem) / val 18446744073709551616 vv :: qs, u'.take (m + 2), ?_⟩
   have key : val 18446744073709551616 (val 18446744073709551616 (lu.getD j 0 :: rem) / val 18446744073709551616 vv :: qs) * val 18446744073709551616 vv + val 18446744073709551616 (u'.take (m + 2)) = val 18446744073709551616 (lu.drop j) := by
    rw [val_drop hjl, ← hinv, ← hut2, huv', val, val] at *
    rw [Nat.add_mul, Nat.mul_add, Nat.mul_assoc]
    rw [Nat.mul_comm (val 18446744073709551616 vv)] at hdm
    omega
   (repeat' apply And.intro) <;> first | rfl | omega | assumption | (simp; omega) | exact Lim.cons hqlt hlq | exact hul'.take | exact key
 rintro ⟨ρ3, σ, c5⟩ ⟨qs, rem, hqs, hrem, hlq, hlr, hinv, hrv, h9, h12, h10, h13, hσ, hc5⟩
 dsimp only at h9 h12 h10 h13 hσ hc5
 subst hσ
 refine v_freeze 13 (t := c4) (off := 0) (n := N + 1) (cap := some (N + 1)) (l := qs) (ySF h13) yS (by omega) (by omega) ?_
 rw [List.drop_zero, show qs.take (N + 1) = qs from List.take_of_length_le (by omega)]
 refine v_freeze 10 (t := iu) (off := 0) (n := lu.length) (cap := none) (l := rem ++ List.replicate (N + 1) 0) (ySF h10) (ySF hne) (by omega) (by simp; omega) ?_
 have hall : (rem ++ List.replicate (N + 1) 0).take lu.length = rem ++ List.replicate (N + 1) 0 := List.take_of_length_le (by simp; omega)
 rw [List.drop_zero, hall]
 obtain ⟨e1, e2⟩ := div_mod_of hinv hrv
 rw [hvv2] at e1 e2
 rw [(shift_div (x := x) (y := y) (s := s)).1] at e1
 rw [(shift_div (x := x) (y := y) (s := s)).2] at e2
 have htk : (rem ++ List.replicate (N + 1) 0).take (m + 2) = rem := by rw [List.take_append_of_le_length (by omega), List.take_of_length_le (by omega)]
 refine xRF (jn h9 h12) ?_
 refine s_call (norm_spec (.id c4) qs c5 hlq (by omega)) yM ?_
 rintro v c6 hc6 ⟨t6, rfl, ht6⟩
 rw [← e1]
 have hrl : (rem ++ List.replicate (N + 1) 0).length = m + 2 + (N + 1) := by simp; omega
 refine xRF (jn h9 (jn h12 (jn hmm (jn htk hrl)))) ?_
 refine s_call (down_spec (.id iu) rem s c6 hlr q1 (by omega)) yM ?_
 rintro v c7 hc7 ⟨t7, rfl, ht7⟩
 rw [← e2, Nat.mul_div_cancel _ (Nat.two_pow_pos s)]
 refine xR ?_
 exact ⟨t6, t7, rfl, ht6.mono (by omega) (by omega), .inl (ht7.mono (by omega) (by omega))⟩

theorem quo_spec (t u : Tok) (a b : List Nat) (c : Nat) (ha : Lim 18446744073709551616 a) (hb : Lim 18446744073709551616 b) (hna : a.length ≤ 1099511627776) (hnb : b.length ≤ 1099511627776) :
  VSpec Tryz.prog F.div_Quo c [nats t a, nats u b] (fun r c' => (val 18446744073709551616 b = 0 → r = .tup [nil1, iv 30]) ∧ (0 < val 18446744073709551616 b → Told c c' (val 18446744073709551616 a / val 18446744073709551616 b) r)) := by
 refine sG hm G.div_Quo ?_
 unfold C.div_Quo R.div_Quo cD
 refine xR ?_
 refine s_call (norm_spec t a c ha (by omega)) yM ?_
 rintro v c1 hc1 ⟨t1, rfl, ht1⟩
 refine xR ?_
 refine s_call (norm_spec u b c1 hb (by omega)) yM ?_
 rintro v c2 hc2 ⟨t2, rfl, ht2⟩
 have hla := digs_len_le two64 ha
 have hlb := digs_len_le two64 hb
 have hnil := digs_eq_nil two64 (n := val 18446744073709551616 b)
 by_cases g : val 18446744073709551616 b = 0
 ·have g1 : ((digs 18446744073709551616 (val 18446744073709551616 b)).length : Int) = 0 := by rw [hnil.2 g]; rfl
  refine xRF g1 ?_
  exact ⟨fun _ => trivial, fun h => absurd h (by omega)⟩
 have g1 : ¬ ((digs 18446744073709551616 (val 18446744073709551616 b)).length : Int) = 0 := by
  intro e
  have := List.eq_nil_of_length_eq_zero (show (digs 18446744073709551616 (val 18446744073709551616 b)).length = 0 by omega)
  exact g (hnil.1 this)
 refine xRF g1 ?_
 refine s_call (divide_spec t1 t2 (val 18446744073709551616 a) (val 18446744073709551616 b) c2 (ht1.kn.mono hc2) (by omega) (by omega) (by omega)) yM ?_
 rintro v c3 hc3 ⟨t3, t4, rfl, ht3, _⟩
 have hq := lim_digs two64 (val 18446744073709551616 a / val 18446744073709551616 b)
 have hqn : (digs 18446744073709551616 (val 18446744073709551616 a / val 18446744073709551616 b)).length ≤ 1099511627776 := Nat.le_trans (le_len two64 (Nat.div_le_self _ _)) (by omega)
 have hqv := val_digs two64 (val 18446744073709551616 a / val 18446744073709551616 b)
 refine xRF g1 ?_
 refine s_call (length_spec t3 _ c3 hq (by omega)) yM ?_
 rintro v c4 hc4 rfl
 rw [hqv]
 by_cases gb : (67108864 : Int) < (bl (val 18446744073709551616 a / val 18446744073709551616 b) : Int)
 ·refine xRF gb ?_
  exact fun _ => .inr ⟨by omega, rfl⟩
 ·refine xRF gb ?_
  exact fun _ => .inl ⟨by omega, t3, rfl, ht3.mono (by omega) (by omega)⟩
end Go.Proofs.YtcafgpconlkecaaGreatDoor
namespace Go.VM
def IsRoot (A k r : Nat) : Prop := r ^ k ≤ A ∧ A < (r + 1) ^ k
theorem root_exists {A k : Nat} (hk : 0 < k) : ∃ r, IsRoot A k r := by
 have key : ∀ n, A < (n + 1) ^ k → ∃ r, IsRoot A k r := by
  intro n
  induction n with
  | zero => intro h; exact ⟨0, by rw [Nat.zero_pow hk]; exact Nat.zero_le _, h⟩
  | succ n ih =>
   intro h
   rcases Nat.lt_or_ge A ((n + 1) ^ k) with g | g
   ·exact ih g
   ·exact ⟨n + 1, g, h⟩
 refine key A ?_
 have h1 : (A + 1) ^ 1 ≤ (A + 1) ^ k := Nat.pow_le_pow_right (by omega) hk
 rw [Nat.pow_one] at h1
 omega
theorem sq_le (r x : Nat) : 2 * (r * x) ≤ r * r + x * x := by
 rcases Nat.le_total r x with h | h
 ·obtain ⟨d, rfl⟩ := Nat.le.dest h
  have : (r + d) * (r + d) = r * r + r * d + (r * d + d * d) := by rw [Nat.add_mul, Nat.mul_add, Nat.mul_add, Nat.mul_comm d r]
  rw [this, Nat.mul_add]
  omega
 ·obtain ⟨d, rfl⟩ := Nat.le.dest h
  have : (x + d) * (x + d) = x * x + x * d + (x * d + d * d) := by rw [Nat.add_mul, Nat.mul_add, Nat.mul_add, Nat.mul_comm d x]
  rw [this, Nat.add_mul, Nat.mul_comm d x]
  omega
theorem bern (r x : Nat) : ∀ k : Nat, (k + 1) * (r * x ^ k) ≤ k * x ^ (k + 1) + r ^ (k + 1)
 | 0 => by simp
 | k + 1 => by
  have ih := Nat.mul_le_mul_left r (bern r x k)
  have sq := Nat.mul_le_mul_left ((k + 1) * x ^ k) (sq_le r x)
  have e1 : r * ((k + 1) * (r * x ^ k)) = (k + 1) * x ^ k * (r * r) := by ac_rfl
  have e2 : r * (k * x ^ (k + 1) + r ^ (k + 1)) = k * (r * x ^ (k + 1)) + r ^ (k + 1 + 1) := by
   rw [Nat.mul_add, Nat.pow_succ r (k + 1)]; ac_rfl
  have e3 : (k + 1) * x ^ k * (2 * (r * x)) = (k + 1) * (r * x ^ (k + 1)) + (k + 1) * (r * x ^ (k + 1)) := by
   rw [Nat.pow_succ, ← Nat.two_mul]; ac_rfl
  have e4 : (k + 1) * x ^ k * (x * x) = (k + 1) * x ^ (k + 1 + 1) := by rw [Nat.pow_succ, Nat.pow_succ]; ac_rfl
  have e5 : (k + 1 + 1) * (r * x ^ (k + 1)) = (k + 1) * (r * x ^ (k + 1)) + r * x ^ (k + 1) := by rw [Nat.add_mul (k + 1) 1, Nat.one_mul]
  have e6 : (k + 1) * (r * x ^ (k + 1)) = k * (r * x ^ (k + 1)) + r * x ^ (k + 1) := by rw [Nat.add_mul k 1, Nat.one_mul]
  rw [e1, e2] at ih
  rw [e3, Nat.mul_add, e4] at sq
  rw [e5]
  omega
theorem newton_ge {A j r x : Nat} (hr : r ^ (j + 1) ≤ A) (hx : 0 < x) : r ≤ (x * j + A / x ^ j) / (j + 1) := by
 rw [Nat.le_div_iff_mul_le (by omega)]
 have hp : 0 < x ^ j := Nat.pow_pos hx
 have h := bern r x j
 have e : A / x ^ j + x * j = (A + x * j * x ^ j) / x ^ j := (Nat.add_mul_div_right A (x * j) hp).symm
 rw [Nat.add_comm (x * j), e, Nat.le_div_iff_mul_le hp]
 have e2 : r * (j + 1) * x ^ j = (j + 1) * (r * x ^ j) := by ac_rfl
 have e3 : x * j * x ^ j = j * x ^ (j + 1) := by rw [Nat.pow_succ]; ac_rfl
 rw [e2, e3]
 omega
theorem newton_stop {A j x : Nat} (hx : 0 < x) (h : x ≤ (x * j + A / x ^ j) / (j + 1)) : x ^ (j + 1) ≤ A := by
 rw [Nat.le_div_iff_mul_le (by omega), Nat.mul_add, Nat.mul_one] at h
 have h2 : x ≤ A / x ^ j := by omega
 rw [Nat.le_div_iff_mul_le (Nat.pow_pos hx)] at h2
 rw [Nat.pow_succ, Nat.mul_comm]
 exact h2
theorem newton_start {A L k c : Nat} (hA : A < 2 ^ L) (hk : 0 < k) (hc : c = (L + k - 1) / k) : A < (2 ^ c) ^ k := by
 refine Nat.lt_of_lt_of_le hA ?_
 rw [← Nat.pow_mul]
 refine Nat.pow_le_pow_right (by decide) ?_
 have h1 := Nat.div_add_mod (L + k - 1) k
 have h2 := Nat.mod_lt (L + k - 1) hk
 rw [← hc, Nat.mul_comm] at h1
 omega
theorem lt_of_pow_lt {a b k : Nat} (h : a ^ k < b ^ k) : a < b := by
 rcases Nat.lt_or_ge a b with g | g
 ·exact g
 ·have := Nat.pow_le_pow_left g k
  omega
theorem bl_half {k L : Nat} (hk : 2 ≤ k) : (L + k - 1) / k ≤ (L + 1) / 2 := by
 rw [Nat.div_le_iff_le_mul_add_pred (by omega)]
 have h1 := Nat.div_add_mod (L + 1) 2
 have h2 := Nat.mod_lt (L + 1) (show 0 < 2 by decide)
 have h3 : 2 * ((L + 1) / 2) ≤ k * ((L + 1) / 2) := Nat.mul_le_mul_right _ hk
 omega
theorem bl_prod {x j c e : Nat} (hx : x ≤ 2 ^ c) (hj : j < 2 ^ e) : x * j < 2 ^ (c + e) := by
 rw [Nat.pow_add]
 rcases Nat.eq_zero_or_pos j with h | h
 ·rw [h, Nat.mul_zero]; exact Nat.mul_pos (Nat.two_pow_pos c) (Nat.two_pow_pos e)
 ·exact Nat.lt_of_le_of_lt (Nat.mul_le_mul_right j hx) (Nat.mul_lt_mul_of_pos_left hj (Nat.two_pow_pos c))
theorem bl_sum {a b m : Nat} (ha : a < 2 ^ m) (hb : b < 2 ^ m) : a + b < 2 ^ (m + 1) := by rw [Nat.pow_succ]; omega
end Go.VM
namespace Go.Proofs.YtcafgpconlkecaaGreatDoor
open Go.VM

theorem v_cut2 {P : Program} {c0 : Nat} {S : VS} {Q : VEx → VS → Prop} {a b y : VC} (M : VS → Prop) (h1 : VWP P c0 a (thenQ P c0 b fun e S => e = .normal ∧ M S) S) (h2 : ∀ S, M S → VWP P c0 y Q S) : VWP P c0 (.seq a (.seq b y)) Q S := by
 refine vwp_seq (vwp_mono h1 ?_)
 intro e S' h
 cases e with
 | normal =>
  rw [thenQ_normal] at h ⊢
  exact v_cut M h h2
 | exit j => rw [thenQ_exit] at h; cases h.1
 | ret => rw [thenQ_ret] at h; cases h.1

theorem fits_spec (t : Tok) (a : List Nat) (c : Nat) (ha : Lim 18446744073709551616 a) (hna : a.length ≤ 1099511627776) :
  VSpec Tryz.prog F.roots_fits c [nats t a] (fun r c' => Told c c' (val 18446744073709551616 a) r) := by
 refine sG hm G.roots_fits ?_
 unfold C.roots_fits R.roots_fits cD
 refine xR ?_
 refine s_call (length_spec t a c ha (by omega)) yM ?_
 rintro v c1 hc1 rfl
 by_cases g : (67108864 : Int) < (bl (val 18446744073709551616 a) : Int)
 ·refine xRF g ?_
  exact .inr ⟨by omega, rfl⟩
 refine xRF g ?_
 refine s_call (norm_spec t a c1 ha (by omega)) yM ?_
 rintro v c2 hc2 ⟨t2, rfl, ht2⟩
 refine xR ?_
 exact .inl ⟨by omega, t2, rfl, ht2.mono (by omega) (by omega)⟩

theorem power_spec (n c : Nat) (hn : n < 67108864) : VSpec Tryz.prog F.roots_power c [iv n] (fun r c' => NatR c c' (2 ^ n) r) := by
 refine sG hm G.roots_power ?_
 unfold C.roots_power R.roots_power cD
 refine xR ?_
 refine s_call (from_spec 1 c (by decide)) yM ?_
 rintro v c1 hc1 ⟨t1, rfl, ht1⟩
 have h1 := lim_digs two64 1
 have v1 := val_digs two64 1
 have l1 : (digs 18446744073709551616 1).length ≤ 1 := digs_len two64 (by decide)
 generalize digs 18446744073709551616 1 = one at *
 refine xR ?_
 refine s_call (left_spec t1 one n c1 h1 (by omega) (by omega)) yM ?_
 rw [v1, Nat.one_mul]
 rintro v c2 hc2 (⟨hb, t2, rfl, ht2⟩ | ⟨hb, rfl⟩)
 ·refine xR ?_
  exact ⟨t2, rfl, ht2.mono (by omega) (by omega)⟩
 ·have : bl (2 ^ n) ≤ n + 1 := bl_le (Nat.pow_lt_pow_right (by decide) (by omega))
  omega

theorem less_root (t u : Tok) (a b : List Nat) (c : Nat) (ha : Lim 18446744073709551616 a) (hb : Lim 18446744073709551616 b) (hna : a.length ≤ 1099511627776) (hnb : b.length ≤ 1099511627776) (hle : val 18446744073709551616 b ≤ val 18446744073709551616 a) (hbl : bl (val 18446744073709551616 a) ≤ 67108864) :
  VSpec Tryz.prog F.roots_less c [nats t a, nats u b] (fun r c' => NatR c c' (val 18446744073709551616 a - val 18446744073709551616 b) r) := by
 refine sG hm G.roots_less ?_
 unfold C.roots_less R.roots_less cD
 refine xR ?_
 refine s_call (sub_spec t u a b c ha hb hna hnb) yM ?_
 rintro v c1 hc1 h
 rw [if_neg (by omega)] at h
 rcases h with ⟨hb', t2, rfl, ht2⟩ | ⟨hb', rfl⟩
 ·refine xR ?_
  exact ⟨t2, rfl, ht2.mono (by omega) (by omega)⟩
 ·have := bl_mono (Nat.sub_le (val 18446744073709551616 a) (val 18446744073709551616 b))
  omega

theorem newton_spec (t : Tok) (A0 k c : Nat) (hA : 0 < A0) (hL : bl A0 ≤ 67108864) (hk : 2 ≤ k) (hk63 : k < 9223372036854775808) :
  VSpec Tryz.prog F.roots_newton c [nats t (digs 18446744073709551616 A0), iv k] (fun r c' => ∃ x, NatR c c' x r ∧ IsRoot A0 k x) := by
 refine sG hm G.roots_newton ?_
 unfold C.roots_newton R.roots_newton cD
 have hla := lim_digs two64 A0
 have va := val_digs two64 A0
 have hna : (digs 18446744073709551616 A0).length ≤ 1048576 := digs_len_bl (by omega)
 refine xR ?_
 refine s_call (length_spec t _ c hla (by omega)) yM ?_
 rintro v c1 hc1 rfl
 rw [va]
 by_cases g1 : (bl A0 : Int) ≤ k
 ·refine xRF g1 ?_
  refine s_call (from_spec 1 c1 (by decide)) yM ?_
  rintro v c2 hc2 ⟨t2, rfl, ht2⟩
  refine xR ?_
  refine ⟨1, ⟨t2, rfl, ht2.mono (by omega) (by omega)⟩, by rw [Nat.one_pow]; exact hA, ?_⟩
  exact Nat.lt_of_lt_of_le (lt_bl A0) (Nat.pow_le_pow_right (by decide) (by omega))
 have hbp := bl_pos hA
 have hAlow := le_of_bl hA
 have hAlt := lt_bl A0
 generalize hLd : bl A0 = L at *
 have hkL : k < L := by omega
 obtain ⟨r, hr⟩ := root_exists (A := A0) (k := k) (by omega)
 have hr2 : 2 ≤ r := by
  have h1 : 2 ^ k ≤ A0 := Nat.le_trans (Nat.pow_le_pow_right (by decide) (by omega)) hAlow
  have h2 : 2 ^ k < (r + 1) ^ k := Nat.lt_of_le_of_lt h1 hr.2
  have := lt_of_pow_lt h2
  omega
 obtain ⟨e, he⟩ : ∃ e, e = (L + k - 1) / k := ⟨_, rfl⟩
 have hstart := newton_start hAlt (by omega) he
 have hhalf := bl_half (L := L) hk
 rw [← he] at hhalf
 have hx0 : r < 2 ^ e := lt_of_pow_lt (Nat.lt_of_le_of_lt hr.1 hstart)
 have ei : ((L : Int) + k - 1) / k = (e : Int) := by
  rw [he, Int.natCast_ediv]
  congr 1
  omega
 refine xRF (jn g1 ei) ?_
 refine s_call (power_spec e c1 (by omega)) yM ?_
 rintro v c2 hc2 ⟨t2, rfl, ht2⟩
 refine xR ?_
 obtain ⟨j, rfl⟩ : ∃ j, k = j + 1 := ⟨k - 1, by omega⟩
 have ej : (((j + 1 : Nat) : Int) - 1) = (j : Int) := by omega
 have hj26 : j < 2 ^ 26 := by
  have : (2 : Nat) ^ 26 = 67108864 := by decide
  omega
 refine vwp_loop (fun m S => ∃ x tx, m = x ∧ r ≤ x ∧ x ≤ 2 ^ e ∧ Tk c S.c tx ∧ S.ρ 0 = nats t (digs 18446744073709551616 A0) ∧ S.ρ 1 = iv ((j + 1 : Nat) : Int) ∧ S.ρ 6 = nats tx (digs 18446744073709551616 x) ∧ S.σ = noBlk ∧ c1 ≤ S.c) (2 ^ e) ?_ ?_
 ·refine ⟨2 ^ e, t2, rfl, ?_⟩
  refine xS ?_
  exact ⟨by omega, Nat.le_refl _, ht2.mono (by omega) (Nat.le_refl _), hc2⟩
 rintro m ⟨ρ2, σ, c3⟩ ⟨x, tx, hm', hrx, hxe, htx, h0, h1, h6, hσ, hc3⟩
 dsimp only at htx h0 h1 h6 hσ hc3
 subst hσ
 have hxl := lim_digs two64 x
 have vx := val_digs two64 x
 have hblx : bl x ≤ e + 1 := bl_le (Nat.lt_of_le_of_lt hxe (Nat.pow_lt_pow_right (by decide) (by omega)))
 have hnx : (digs 18446744073709551616 x).length ≤ 1048576 := digs_len_bl (by omega)
 have hqA : A0 / x ^ j ≤ A0 := Nat.div_le_self _ _
 have hqn : (digs 18446744073709551616 (A0 / x ^ j)).length ≤ 1048576 := Nat.le_trans (le_len two64 hqA) hna
 have hql := lim_digs two64 (A0 / x ^ j)
 have vq := val_digs two64 (A0 / x ^ j)
 refine vwp_block ?_
 refine v_cut2 (fun S => ∃ t9, S.ρ 0 = nats t (digs 18446744073709551616 A0) ∧ S.ρ 1 = iv ((j + 1 : Nat) : Int) ∧ S.ρ 6 = nats tx (digs 18446744073709551616 x) ∧ S.ρ 9 = nats t9 (digs 18446744073709551616 (A0 / x ^ j)) ∧ S.σ = noBlk ∧ c3 ≤ S.c) ?_ ?_
 ·refine v_last ?_
  refine xSF (jn h6 (jn h1 ej)) ?_
  refine ⟨by omega, ?_⟩
  refine s_call (pow_spec tx _ j c3 hxl (by omega) (by omega)) (yMF h6) ?_
  rw [vx]
  rintro v c4 hc4 (⟨hb, t4, rfl, ht4⟩ | ⟨hb, rfl⟩)
  ·have hpl := lim_digs two64 (x ^ j)
   have vp := val_digs two64 (x ^ j)
   have hpn : (digs 18446744073709551616 (x ^ j)).length ≤ 1048576 := digs_len_bl (by omega)
   have hp0 : 0 < x ^ j := Nat.pow_pos (by omega)
   refine xRF (jn h0 (jn h1 (jn h6 ej))) ?_
   refine s_call (quo_spec t t4 _ _ c4 hla hpl (by omega) (by omega)) (yMF h0) ?_
   rw [va, vp]
   rintro v c5 hc5 ⟨_, hq⟩
   rcases hq hp0 with ⟨_, t5, rfl, _⟩ | ⟨hbig, _⟩
   ·refine xRF (jn h0 (jn h1 h6)) ?_
    exact ⟨t5, rfl, by omega⟩
   ·have := bl_mono hqA
    omega
  ·have hz : A0 / x ^ j = 0 := Nat.div_eq_of_lt (by
    have hp0 : 0 < x ^ j := Nat.pow_pos (by omega)
    rcases Nat.lt_or_ge A0 (x ^ j) with g | g
    ·exact g
    ·have := bl_mono g
     omega)
   rw [hz]
   refine xRF (jn h0 (jn h1 (jn h6 ej))) ?_
   refine s_call (quo_spec t .nil _ [] c4 hla Lim.nil (by omega) (by simp)) (yMrF h0) ?_
   rintro v c5 hc5 ⟨hq, _⟩
   have := hq rfl
   subst this
   refine xRF (jn h0 (jn h1 h6)) ?_
   exact ⟨.nil, rfl, by omega⟩
 rintro ⟨ρ3, σ, c4⟩ ⟨t9, h0, h1, h6, h9, hσ, hc4⟩
 dsimp only at h0 h1 h6 h9 hσ hc4
 subst hσ
 have hx0 : 0 < x := by omega
 have hq2 : A0 / x ^ j < 2 ^ (L - 1) := by
  have h1 : 2 ≤ x ^ j := by
   have : x ^ 1 ≤ x ^ j := Nat.pow_le_pow_right hx0 (by omega)
   rw [Nat.pow_one] at this
   omega
  have h2 : A0 / x ^ j ≤ A0 / 2 := Nat.div_le_div_left h1 (by decide)
  have h3 : A0 / 2 < 2 ^ (L - 1) := by
   rw [Nat.div_lt_iff_lt_mul (by decide), ← Nat.pow_succ, show (L - 1).succ = L by omega]
   exact hAlt
  omega
 obtain ⟨em, hem1, hem2, hem3⟩ : ∃ em, em < 67108864 ∧ e + 26 ≤ em ∧ L - 1 ≤ em := by
  rcases Nat.le_total (e + 26) (L - 1) with h | h
  ·exact ⟨L - 1, by omega, h, Nat.le_refl _⟩
  ·exact ⟨e + 26, by omega, Nat.le_refl _, h⟩
 have hs1 : x * j < 2 ^ em := Nat.lt_of_lt_of_le (bl_prod hxe hj26) (Nat.pow_le_pow_right (by decide) hem2)
 have hs2 : A0 / x ^ j < 2 ^ em := Nat.lt_of_lt_of_le hq2 (Nat.pow_le_pow_right (by decide) hem3)
 have hs3 := bl_sum hs1 hs2
 have hb1 : bl (x * j) ≤ em := bl_le hs1
 have hb2 : bl (x * j + A0 / x ^ j) ≤ em + 1 := bl_le hs3
 have hb3 : bl ((x * j + A0 / x ^ j) / (j + 1)) ≤ em + 1 := Nat.le_trans (bl_mono (Nat.div_le_self _ _)) hb2
 have hge := newton_ge (j := j) hr.1 hx0
 have hstop := newton_stop (A := A0) (j := j) hx0
 have ejt : (j : Int).toNat = j := by omega
 have ekt : (((j + 1 : Nat) : Int)).toNat = j + 1 := by omega
 refine xRF (jn h0 (jn h1 (jn h6 (jn h9 (jn ej ejt))))) ?_
 refine s_call (times_spec tx _ j c4 hxl (by omega) (by omega)) (yMF h6) ?_
 rw [vx]
 rintro v c5 hc5 (⟨hb, t5, rfl, ht5⟩ | ⟨hb, rfl⟩)
 rotate_left
 ·omega
 have hml := lim_digs two64 (x * j)
 have vmx := val_digs two64 (x * j)
 have hmn : (digs 18446744073709551616 (x * j)).length ≤ 1048576 := digs_len_bl (by omega)
 refine xRF (jn h0 (jn h1 (jn h6 h9))) ?_
 refine s_call (add_spec t5 t9 _ _ c5 hml hql (by omega) (by omega)) (yMF h9) ?_
 rw [vmx, vq]
 rintro v c6 hc6 (⟨hb, t6, rfl, ht6⟩ | ⟨hb, rfl⟩)
 rotate_left
 ·omega
 have hsl := lim_digs two64 (x * j + A0 / x ^ j)
 have vs := val_digs two64 (x * j + A0 / x ^ j)
 have hsn : (digs 18446744073709551616 (x * j + A0 / x ^ j)).length ≤ 1048576 := digs_len_bl (by omega)
 refine xRF (jn h0 (jn h1 (jn h6 (jn h9 ekt)))) ?_
 refine s_call (through_spec t6 _ (j + 1) c6 hsl (by omega) (by omega)) (yMF h1) ?_
 rw [vs]
 rintro v c7 hc7 ⟨_, hth, _⟩
 obtain ⟨t7, rfl, ht7⟩ := hth (by omega) (by omega)
 obtain ⟨y, hy⟩ : ∃ y, y = (x * j + A0 / x ^ j) / (j + 1) := ⟨_, rfl⟩
 rw [← hy] at hge hstop hb3 ⊢
 have hyl := lim_digs two64 y
 have vy := val_digs two64 y
 have hyn : (digs 18446744073709551616 y).length ≤ 1048576 := digs_len_bl (by omega)
 refine xRF (jn h0 (jn h1 (jn h6 h9))) ?_
 refine s_call (compare_spec t7 tx _ _ c7 hyl hxl (by omega) (by omega)) (yMF h6) ?_
 rintro v c8 hc8 rfl
 rw [vy, vx]
 have hcmp : 0 ≤ cmpI y x ↔ x ≤ y := by unfold cmpI; split <;> (try split) <;> omega
 by_cases g : 0 ≤ cmpI y x
 ·refine xRF (jn h0 (jn h1 (jn h6 (jn h9 g)))) ?_
  rw [hcmp] at g
  refine ⟨x, ⟨tx, rfl, htx.mono (Nat.le_refl _) (by omega)⟩, hstop g, ?_⟩
  exact Nat.lt_of_lt_of_le hr.2 (Nat.pow_le_pow_left (by omega) _)
 ·refine xRF (jn h0 (jn h1 (jn h6 (jn h9 g)))) ?_
  rw [hcmp] at g
  refine ⟨y, by omega, y, t7, ?_⟩
  (repeat' apply And.intro) <;> first | rfl | omega | assumption | exact hge | exact ht7.mono (by omega) (by omega)

def RootR (c c' A0 k : Nat) (r : V) : Prop := (bl A0 ≤ 67108864 ∧ ∃ x t1 t2, IsRoot A0 k x ∧ r = .tup [nats t1 (digs 18446744073709551616 x), nats t2 (digs 18446744073709551616 (A0 - x ^ k)), iv 0] ∧ Tk c c' t1 ∧ Tk c c' t2) ∨ (67108864 < bl A0 ∧ r = .tup [nil1, nil1, iv 3])

def Apt (t u : Tok) : Prop := ∀ i, t = .id i → u = .id i → False
theorem Apt.nil {t : Tok} : Apt t .nil := fun i _ h => by cases h
theorem Apt.of {a b c d : Nat} {t u : Tok} (ht : Tk a b t) (hu : Tk c d u) (h : b ≤ c) : Apt t u := fun i e e' => by
 rcases ht with rfl | ⟨j, rfl, h1, h2⟩
 ·cases e
 ·rcases hu with rfl | ⟨k, rfl, h3, h4⟩
  ·cases e'
  ·cases e; cases e'; omega
def RootS (c c' A0 k : Nat) (r : V) : Prop := (bl A0 ≤ 67108864 ∧ ∃ x t1 t2, IsRoot A0 k x ∧ r = .tup [nats t1 (digs 18446744073709551616 x), nats t2 (digs 18446744073709551616 (A0 - x ^ k)), iv 0] ∧ Tk c c' t1 ∧ Tk c c' t2 ∧ Apt t1 t2) ∨ (67108864 < bl A0 ∧ r = .tup [nil1, nil1, iv 3])
theorem RootS.R {c c' A0 k : Nat} {r : V} (h : RootS c c' A0 k r) : RootR c c' A0 k r := by
 rcases h with ⟨hb, x, t1, t2, hx, hr, h1, h2, _⟩ | h
 ·exact .inl ⟨hb, x, t1, t2, hx, hr, h1, h2⟩
 ·exact .inr h

theorem root_specS (t : Tok) (a : List Nat) (k : Int) (c : Nat) (ha : Lim 18446744073709551616 a) (hna : a.length ≤ 1099511627776) (hk : k < 9223372036854775808) :
  VSpec Tryz.prog F.roots_Root c [nats t a, iv k] (fun r c' => (k < 1 → r = .tup [nil1, nil1, iv 40]) ∧ (1 ≤ k → RootS c c' (val 18446744073709551616 a) k.toNat r)) := by
 refine sG hm G.roots_Root ?_
 unfold C.roots_Root R.roots_Root cD
 by_cases g0 : k < 1
 ·refine xRF g0 ?_
  exact ⟨fun _ => trivial, fun h => absurd h (by omega)⟩
 obtain ⟨k, rfl⟩ : ∃ j : Nat, k = (j : Int) := ⟨k.toNat, by omega⟩
 have hk1 : 1 ≤ k := by omega
 have e1 : ((k : Int)).toNat = k := by omega
 rw [e1]
 suffices h : VWP Tryz.prog c C.roots_Root (retQ R.roots_Root fun r c' => c ≤ c' ∧ RootS c c' (val 18446744073709551616 a) k r) ⟨Go.VM.start [nats t a, iv (k : Int)], noBlk, c⟩ by
  refine vwp_mono h ?_
  intro e S h
  cases e with
  | exit j => unfold retQ at h; exact h.elim
  | normal => rw [retQ_normal] at h ⊢; obtain ⟨r, h1, h2, h3⟩ := h; exact ⟨r, h1, h2, fun h => absurd h (by omega), fun _ => h3⟩
  | ret => rw [retQ_ret] at h ⊢; obtain ⟨r, h1, h2, h3⟩ := h; exact ⟨r, h1, h2, fun h => absurd h (by omega), fun _ => h3⟩
 unfold C.roots_Root R.roots_Root
 refine xRF g0 ?_
 refine s_call (fits_spec t a c ha hna) yM ?_
 rintro v c1 hc1 (⟨hb, t1, rfl, ht1⟩ | ⟨hb, rfl⟩)
 rotate_left
 ·have g3 : ¬ (3 : Int) = 0 := by omega
  refine xRF g3 ?_
  exact .inr ⟨hb, rfl⟩
 obtain ⟨A0, hA0⟩ : ∃ A0, A0 = val 18446744073709551616 a := ⟨_, rfl⟩
 rw [← hA0] at hb ⊢
 have hla := lim_digs two64 A0
 have va := val_digs two64 A0
 have hnA : (digs 18446744073709551616 A0).length ≤ 1048576 := digs_len_bl (by omega)
 by_cases g1 : (k : Int) = 1
 ·refine xRF g1 ?_
  obtain rfl : k = 1 := by omega
  refine .inl ⟨hb, A0, t1, .nil, ⟨by rw [Nat.pow_one]; exact Nat.le_refl _, by rw [Nat.pow_one]; omega⟩, ?_, ht1.mono (by omega) (by omega), .inl rfl, Apt.nil⟩
  rw [Nat.pow_one, Nat.sub_self]
  rfl
 refine xRF g1 ?_
 refine s_call (length_spec t1 _ c1 hla (by omega)) yM ?_
 rintro v c2 hc2 rfl
 rw [va]
 by_cases g2 : (bl A0 : Int) = 0
 ·have hz : A0 = 0 := bl_eq_zero.1 (by omega)
  refine xRF (jn g1 g2) ?_
  refine .inl ⟨hb, 0, t1, .nil, ⟨by rw [Nat.zero_pow (by omega)]; exact Nat.zero_le _, by rw [hz, Nat.zero_add, Nat.one_pow]; decide⟩, ?_, ht1.mono (by omega) (by omega), .inl rfl, Apt.nil⟩
  rw [hz, Nat.zero_sub]
  rfl
 have hpos : 0 < A0 := by
  rcases Nat.eq_zero_or_pos A0 with h | h
  ·exact absurd (by rw [h]; rfl) g2
  ·exact h
 refine xRF (jn g1 g2) ?_
 refine s_call (newton_spec t1 A0 k c2 hpos hb (by omega) (by omega)) yM ?_
 rintro v c3 hc3 ⟨x, ⟨t3, rfl, ht3⟩, hx⟩
 have hxl := lim_digs two64 x
 have vx := val_digs two64 x
 have hxA : x ≤ A0 := by
  have h1 : x ^ 1 ≤ x ^ k ∨ x = 0 := by
   rcases Nat.eq_zero_or_pos x with h | h
   ·exact .inr h
   ·exact .inl (Nat.pow_le_pow_right h hk1)
  rw [Nat.pow_one] at h1
  have := hx.1
  omega
 have hnx : (digs 18446744073709551616 x).length ≤ 1048576 := Nat.le_trans (le_len two64 hxA) hnA
 refine xRF (jn g1 g2) ?_
 refine s_call (pow_spec t3 _ k c3 hxl (by omega) (by omega)) yM ?_
 rw [vx]
 have hbp := bl_mono hx.1
 rintro v c4 hc4 (⟨hb4, t4, rfl, ht4⟩ | ⟨hb4, rfl⟩)
 rotate_left
 ·omega
 have hpl := lim_digs two64 (x ^ k)
 have vp := val_digs two64 (x ^ k)
 have hnp : (digs 18446744073709551616 (x ^ k)).length ≤ 1048576 := digs_len_bl (by omega)
 refine xRF (jn g1 g2) ?_
 refine s_call (less_root t1 t4 _ _ c4 hla hpl (by omega) (by omega) (by rw [va, vp]; exact hx.1) (by rw [va]; exact hb)) yM ?_
 rw [va, vp]
 rintro v c5 hc5 ⟨t5, rfl, ht5⟩
 refine xR ?_
 exact .inl ⟨hb, x, t3, t5, hx, rfl, ht3.mono (by omega) (by omega), ht5.mono (by omega) (by omega), Apt.of ht3 ht5 (by omega)⟩

theorem sqrt_specS (t : Tok) (a : List Nat) (c : Nat) (ha : Lim 18446744073709551616 a) (hna : a.length ≤ 1099511627776) :
  VSpec Tryz.prog F.roots_Sqrt c [nats t a] (fun r c' => RootS c c' (val 18446744073709551616 a) 2 r) := by
 refine sG hm G.roots_Sqrt ?_
 unfold C.roots_Sqrt R.roots_Sqrt cD
 refine xR ?_
 refine s_call (root_specS t a 2 c ha hna (by decide)) yM ?_
 rintro v c1 hc1 ⟨_, h⟩
 rcases h (by decide) with ⟨hb, x, t1, t2, hx, rfl, ht1, ht2, hap⟩ | ⟨hb, rfl⟩
 ·refine xR ?_
  exact .inl ⟨hb, x, t1, t2, hx, rfl, ht1, ht2, hap⟩
 ·refine xR ?_
  exact .inr ⟨hb, rfl⟩
theorem sqrt_spec (t : Tok) (a : List Nat) (c : Nat) (ha : Lim 18446744073709551616 a) (hna : a.length ≤ 1099511627776) :
  VSpec Tryz.prog F.roots_Sqrt c [nats t a] (fun r c' => RootR c c' (val 18446744073709551616 a) 2 r) := (sqrt_specS t a c ha hna).mono fun r c' h => h.R
theorem two32 : 2 ≤ 4294967296 := by decide

section
variable {P : Program} {dr : Bool} {c0 : Nat} {ρ : Nat → V} {σ : Nat → Option Blk} {c i : Nat} {r : List VO} {K : VS → Prop}
theorem s_bsl2 {x y : X} {n m : Nat} (h : x.ev ρ = nv n) (h' : y.ev ρ = nv m) (hk : wps P dr c0 r ⟨upd ρ i (nats (.id c) [n, m]), σ, c + 1⟩ K) : wps P dr c0 (⟨some i, .bsl true 1 2 [.int .u64 0] [(0, (1, x)), (1, (1, y))], none⟩ :: r) ⟨ρ, σ, c⟩ K := by
 refine s_eff rfl (by intros; exact fun h => by cases h) (by intros; exact fun h => by cases h) ⟨_, _, _, none, .bsl (cs := [nv n, nv m]) ?_, hk⟩
 simp only [partsOf, List.map, h, h']
 rfl
theorem s_appfit {x y : X} {t n cap : Nat} {w rest ys : List Nat} {u : Tok} (hx : x.ev ρ = .buf t 0 n (some cap) 1) (ht : σ t = nblk (w ++ rest)) (hw : w.length = n) (hy : y.ev ρ = nats u ys) (h1 : n + ys.length ≤ cap) (h2 : ys.length ≤ rest.length)
  (hk : wps P dr c0 r ⟨upd ρ i (.buf t 0 (n + ys.length) (some cap) 1), supd σ t (nblk ((w ++ ys) ++ rest.drop ys.length)), c⟩ K) : wps P dr c0 (⟨some i, .app 1 8 [.int .u64 0] x y, none⟩ :: r) ⟨ρ, σ, c⟩ K := by
 have hc : vcells 1 σ (y.ev ρ) = some (ys.map nv) := by rw [hy]; cases u <;> rfl
 refine s_eff rfl (by intros; exact fun h => by cases h) (by intros; exact fun h => by cases h) ⟨_, _, _, none, .appFit (k := ys.length) hx ht hc (by simp) h1 (by simp; omega), ?_⟩
 have e : putCells ((w ++ rest).map nv) (n * 1) (ys.map nv) = ((w ++ ys) ++ rest.drop ys.length).map nv := by
  rw [Nat.mul_one, putCells_all _ _ _ (by simp; omega)]
  rw [← hw]
  simp [List.map_drop, List.drop_append]
 rw [e]
 exact hk
end

theorem norm32_spec (t : Tok) (l : List Nat) (c : Nat) (hl : Lim 4294967296 l) (hn : l.length ≤ 4398046511104) : VSpec Tryz.prog F.r01norm c [nats t l] (fun r _ => r = nats t (digs 4294967296 (val 4294967296 l))) := by
 rw [← trim_digs two32 hl]
 refine sG hm G.r01norm ?_
 unfold C.r01norm R.r01norm cD
 refine xR ?_
 refine v_loop (fun S => ∃ n : Nat, S.ρ 0 = nats t l ∧ S.ρ 3 = iv (n : Int) ∧ n ≤ l.length ∧ l.take n = trimL l ∧ S.σ = noBlk ∧ S.c = c) ?_ ?_
 ·refine vwp_loop (fun n S => S.ρ 0 = nats t l ∧ S.ρ 3 = iv (n : Int) ∧ n ≤ l.length ∧ trimL (l.take n) = trimL l ∧ S.σ = noBlk ∧ S.c = c) l.length ?_ ?_
  ·refine ⟨?_, ?_⟩
   ·simp only [vm, ite_true, ite_false, eq_self, reduceIte, Nat.reduceEqDiff, Option.map]
   ·simp only [vm, ite_true, ite_false, eq_self, reduceIte, Nat.reduceEqDiff, Option.map, List.take_length]
    exact yA
  rintro n ⟨ρ, σ, k⟩ ⟨h0, h3, hn2, ht, hσ, hk⟩
  dsimp only at h0 h3 hσ hk
  subst hσ hk
  rcases Nat.eq_zero_or_pos n with rfl | hp
  ·have g : ¬ (0 : Int) < ((0 : Nat) : Int) := by omega
   refine xRF (jn h0 (jn h3 g)) ?_
   exact ⟨0, rfl, by omega, by rw [← ht]; rfl⟩
  ·obtain ⟨i, rfl⟩ : ∃ i, n = i + 1 := ⟨n - 1, by omega⟩
   have g : (0 : Int) < ((i + 1 : Nat) : Int) := by omega
   have e1 : (((i + 1 : Nat) : Int) - 1) = (i : Int) := by omega
   have hts := take_snoc (l := l) (i := i) (by omega)
   rw [hts] at ht
   by_cases gz : l.getD i 0 = 0
   ·rw [gz, trimL_zero] at ht
    refine xRF (jn h0 (jn h3 (jn g (jn e1 gz)))) ?_
    exact ⟨i, by omega, rfl, by omega, ht⟩
   ·rw [trimL_pos _ _ gz] at ht
    refine xRF (jn h0 (jn h3 (jn g (jn e1 gz)))) ?_
    exact ⟨i + 1, rfl, by omega, by rw [hts]; exact ht⟩
 rintro ⟨ρ, σ, k⟩ ⟨n, h0, h3, hn2, ht, hσ, hk⟩
 dsimp only at h0 h3 hσ hk
 subst hσ hk
 refine xRF (jn h0 h3) ?_
 rw [ht]

theorem of_spec (t : Tok) (a : List Nat) (c : Nat) (ha : Lim 18446744073709551616 a) (hna : a.length ≤ 1099511627776) :
  VSpec Tryz.prog F.r01Of c [nats t a] (fun r c' => ∃ i, r = nats (.id i) (digs 4294967296 (val 18446744073709551616 a)) ∧ c ≤ i ∧ i < c') := by
 refine sG hm G.r01Of ?_
 unfold C.r01Of R.r01Of cD
 refine xR ?_
 refine s_mk (n := 0) (m := 2 * a.length) ySr ySr (by omega) (by omega) ?_
 refine xR ?_
 refine v_loop (fun S => ∃ w, w.length = 2 * a.length ∧ Lim 4294967296 w ∧ val 4294967296 w = val 18446744073709551616 a ∧ S.ρ 3 = .buf c 0 (2 * a.length) (some (2 * a.length)) 1 ∧ S.σ = supd noBlk c (nblk w) ∧ c + 1 ≤ S.c) ?_ ?_
 ·refine vwp_loop (fun k S => ∃ i w, k = a.length - i ∧ i ≤ a.length ∧ w.length = 2 * i ∧ Lim 4294967296 w ∧ val 4294967296 w = val 18446744073709551616 (a.take i) ∧ S.ρ 10 = nats t a ∧ S.ρ 11 = iv a.length ∧ S.ρ 12 = iv i ∧ S.ρ 3 = .buf c 0 (2 * i) (some (2 * a.length)) 1 ∧ S.σ = supd noBlk c (nblk (w ++ List.replicate (2 * a.length - 2 * i) 0)) ∧ c + 1 ≤ S.c) a.length ?_ ?_
  ·refine ⟨0, [], by omega, by omega, ?_⟩
   refine xS ?_
   (repeat' apply And.intro) <;> first | rfl | omega | assumption | exact Lim.nil | (simp [val]; done)
  rintro k ⟨ρ2, σ, c4⟩ ⟨i, w, hk, hi, hw, hlw, hinv, h10, h11, h12, h3, hσ, hc4⟩
  dsimp only at h10 h11 h12 h3 hσ hc4
  subst hσ
  by_cases g : (i : Int) < a.length
  ·have hi' : i < a.length := by omega
   have hxi := ha.getD (i := i) (by decide)
   have hval := val_take (b := 18446744073709551616) hi'
   refine xRF (jn h10 (jn h11 (jn h12 (jn h3 g)))) ?_
   have hq : a.getD i 0 / 4294967296 % 18446744073709551616 = a.getD i 0 / 4294967296 := Nat.mod_eq_of_lt (by omega)
   refine s_bsl2 (n := a.getD i 0 % 4294967296) (m := a.getD i 0 / 4294967296) yS (ySF hq) ?_
   refine s_appfit (t := c) (n := 2 * i) (cap := 2 * a.length) (w := w) (rest := List.replicate (2 * a.length - 2 * i) 0) (u := .id c4) (ys := [a.getD i 0 % 4294967296, a.getD i 0 / 4294967296]) yS yS hw yS (by simp; omega) (by simp; omega) ?_
   have hdrop : (List.replicate (2 * a.length - 2 * i) 0).drop [a.getD i 0 % 4294967296, a.getD i 0 / 4294967296].length = List.replicate (2 * a.length - 2 * (i + 1)) 0 := by
    rw [List.drop_replicate]; congr 1 <;> first | omega | (simp; done) | (simp; omega)
   have hlen2 : 2 * i + [a.getD i 0 % 4294967296, a.getD i 0 / 4294967296].length = 2 * (i + 1) := by simp; omega
   rw [hdrop, hlen2]
   refine xRF (jn h10 (jn h11 (jn h12 h3))) ?_
   have hv : val 4294967296 (w ++ [a.getD i 0 % 4294967296, a.getD i 0 / 4294967296]) = val 18446744073709551616 (a.take (i + 1)) := by
    rw [val_append, hw, hinv, hval, pow32, pow64, show 32 * (2 * i) = 64 * i by omega]
    congr 1
    congr 1
    simp only [val]
    omega
   refine ⟨a.length - (i + 1), by omega, i + 1, w ++ [a.getD i 0 % 4294967296, a.getD i 0 / 4294967296], ?_⟩
   (repeat' apply And.intro) <;> first | rfl | omega | assumption | (simp [hw]; done) | (simp [hw]; omega) | exact hlw.append (.cons (Nat.mod_lt _ (by decide)) (.cons (by omega) .nil)) | exact hv
  ·have hi' : i = a.length := by omega
   subst hi'
   refine xRF (jn h10 (jn h11 (jn h12 (jn h3 g)))) ?_
   rw [List.take_length] at hinv
   refine ⟨w, ?_⟩
   have e0 : w ++ List.replicate (2 * a.length - 2 * a.length) 0 = w := by simp
   rw [e0]
   exact yA
 rintro ⟨ρ3, σ, c5⟩ ⟨w, hw, hlw, hvw, h3, hσ, hc5⟩
 dsimp only at h3 hσ hc5
 subst hσ
 refine v_freeze 3 (t := c) (off := 0) (n := 2 * a.length) (cap := some (2 * a.length)) (l := w) (ySF h3) yS (by omega) (by omega) ?_
 rw [List.drop_zero, show w.take (2 * a.length) = w from List.take_of_length_le (by omega)]
 refine xR ?_
 refine s_call (norm32_spec (.id c) w c5 hlw (by omega)) yM ?_
 rintro v c6 hc6 rfl
 rw [hvw]
 refine xR ?_
 exact ⟨c, rfl, by omega, by omega⟩

theorem int_spec (n c : Nat) (hn : n < 9223372036854775808) : VSpec Tryz.prog F.r01Int c [iv n] (fun r c' => ∃ i, r = nats (.id i) (digs 4294967296 n) ∧ c ≤ i ∧ i < c') := by
 refine sG hm G.r01Int ?_
 unfold C.r01Int R.r01Int cD
 refine xR ?_
 refine s_bsl1 (n := n) yS ?_
 have hl : Lim 18446744073709551616 [n] := .cons (by omega) .nil
 refine s_call (of_spec (.id c) [n] (c + 1) hl (by simp)) yM ?_
 rintro v c1 hc1 ⟨i, rfl, hi1, hi2⟩
 have e : val 18446744073709551616 [n] = n := by simp [val]
 rw [e]
 refine xR ?_
 exact ⟨i, rfl, by omega, by omega⟩

theorem bl_div2 {v : Nat} (h : 0 < v) : bl v = bl (v / 2) + 1 := by
 rcases Nat.lt_or_ge v 2 with g | g
 ·have : v = 1 := by omega
  subst this
  rfl
 ·have := bl_shift (x := v) (k := 1) (by simpa using g)
  rw [Nat.pow_one] at this
  omega

theorem len_spec (t : Tok) (n c : Nat) (hn : (digs 4294967296 n).length ≤ 4398046511104) : VSpec Tryz.prog F.r01Num_Len c [nats t (digs 4294967296 n)] (fun r _ => r = iv (bl n)) := by
 refine sG hm G.r01Num_Len ?_
 unfold C.r01Num_Len R.r01Num_Len cD
 by_cases g : digs 4294967296 n = []
 ·have hz := (digs_eq_nil two32).1 g
  rw [g]
  have e : (([] : List Nat).length : Int) = 0 := rfl
  refine xRF e ?_
  rw [hz]; rfl
 obtain ⟨m, x, hmx⟩ := snoc_of_ne g
 obtain ⟨hx0, hx1, hbl⟩ := bl_digs32 hmx
 rw [hmx] at hn ⊢
 have hlen : (m ++ [x]).length = m.length + 1 := by simp
 rw [hlen] at hn
 have e0 : ¬ ((m.length + 1 : Nat) : Int) = 0 := by omega
 have e1 : ((m.length + 1 : Nat) : Int) - 1 = (m.length : Int) := by omega
 have hg : (m ++ [x]).getD m.length 0 = x := by simp
 rw [hbl]
 refine xRF (jn hlen (jn e0 (jn e1 hg))) ?_
 refine v_loop (fun S => S.ρ 3 = iv ((32 * m.length + bl x : Nat) : Int) ∧ S.σ = noBlk ∧ S.c = c) ?_ ?_
 ·refine vwp_loop (fun v S => ∃ k, bl x = k + bl v ∧ v ≤ x ∧ S.ρ 3 = iv ((32 * m.length + k : Nat) : Int) ∧ S.ρ 4 = nv v ∧ S.σ = noBlk ∧ S.c = c) x ?_ ?_
  ·refine ⟨0, by omega, Nat.le_refl _, ?_⟩
   refine xS ?_
   (repeat' apply And.intro) <;> first | rfl | omega | assumption | (congr 1; omega)
  rintro v ⟨ρ, σ, c1⟩ ⟨k, hk, hvx, h3, h4, hσ, hc1⟩
  dsimp only at h3 h4 hσ hc1
  subst hσ hc1
  have hbx : bl x ≤ 32 := bl_le hx1
  rcases Nat.eq_zero_or_pos v with rfl | hv
  ·have g1 : ¬ 0 < 0 := by omega
   refine xRF (jn h3 (jn h4 g1)) ?_
   rw [bl_zero] at hk
   rw [hk]; rfl
  ·have hd := bl_div2 hv
   have e2 : ((32 * m.length + k : Nat) : Int) + 1 = ((32 * m.length + (k + 1) : Nat) : Int) := by omega
   have e3 : v / 2 % 18446744073709551616 = v / 2 := Nat.mod_eq_of_lt (by omega)
   refine xRF (jn h3 (jn h4 (jn hv (jn e2 e3)))) ?_
   refine ⟨v / 2, by omega, k + 1, by omega, by omega, ?_⟩
   exact yA
 rintro ⟨ρ, σ, c1⟩ ⟨h3, hσ, hc1⟩
 dsimp only at h3 hσ hc1
 subst hσ hc1
 refine xRF h3 ?_
 exact Nat.le_refl _

theorem cmp_spec (t u : Tok) (m n c : Nat) (hm1 : (digs 4294967296 m).length ≤ 4398046511104) (hn1 : (digs 4294967296 n).length ≤ 4398046511104) : VSpec Tryz.prog F.r01Cmp c [nats t (digs 4294967296 m), nats u (digs 4294967296 n)] (fun r _ => r = iv (cmpI m n)) := by
 refine sG hm G.r01Cmp ?_
 unfold C.r01Cmp R.r01Cmp cD
 have hda := lim_digs two32 m
 have hdb := lim_digs two32 n
 have va := val_digs two32 m
 have vb := val_digs two32 n
 have hlt := lt_of_len two32 (m := m) (n := n)
 have hgt := lt_of_len two32 (m := n) (n := m)
 generalize digs 4294967296 m = x at *
 generalize digs 4294967296 n = y at *
 by_cases g : (x.length : Int) = y.length
 rotate_left
 ·by_cases g2 : (x.length : Int) < y.length
  ·refine xRF (jn g g2) ?_
   rw [cmpI, if_pos (hlt (by omega))]
  ·refine xRF (jn g g2) ?_
   have := hgt (by omega)
   rw [cmpI, if_neg (by omega), if_neg (by omega)]
 have hxy : x.length = y.length := by omega
 refine xRF g ?_
 refine v_loopR (fun S => val 4294967296 x = val 4294967296 y ∧ S.σ = noBlk ∧ S.c = c) ?_ ?_
 ·refine vwp_loop (fun k S => S.ρ 0 = nats t x ∧ S.ρ 1 = nats u y ∧ S.ρ 5 = iv ((k : Int) - 1) ∧ k ≤ x.length ∧ val 4294967296 (x.drop k) = val 4294967296 (y.drop k) ∧ S.σ = noBlk ∧ S.c = c) x.length ?_ ?_
  ·rw [List.drop_of_length_le (Nat.le_refl _), hxy, List.drop_of_length_le (Nat.le_refl _)]
   refine xSF g ?_
   exact yA
  rintro k ⟨ρ, σ, c3⟩ ⟨h0, h1, h5, hk, hv, hσ, hc3⟩
  dsimp only at h0 h1 h5 hσ hc3
  subst hσ hc3
  rcases Nat.eq_zero_or_pos k with rfl | hp
  ·have g1 : ¬ (0 : Int) ≤ ((0 : Nat) : Int) - 1 := by omega
   refine xRF (jn h0 (jn h1 (jn h5 g1))) ?_
   rw [List.drop_zero, List.drop_zero] at hv
   exact hv
  ·obtain ⟨i, rfl⟩ : ∃ i, k = i + 1 := ⟨k - 1, by omega⟩
   have e1 : (((i + 1 : Nat) : Int) - 1) = (i : Int) := by omega
   rw [e1] at h5
   have g1 : (0 : Int) ≤ (i : Int) := by omega
   by_cases g4 : x.getD i 0 < y.getD i 0
   ·have := val_lt_of_top two32 hda hdb (i := i) (by omega) (by omega) hxy hv g4
    refine xRF (jn h0 (jn h1 (jn h5 (jn g1 g4)))) ?_
    rw [cmpI, if_pos (by omega)]
   by_cases g5 : y.getD i 0 < x.getD i 0
   ·have := val_lt_of_top two32 hdb hda (i := i) (by omega) (by omega) hxy.symm hv.symm g5
    refine xRF (jn h0 (jn h1 (jn h5 (jn g1 (jn g4 g5))))) ?_
    rw [cmpI, if_neg (by omega), if_neg (by omega)]
   ·have e2 := val_drop (b := 4294967296) (l := x) (i := i) (by omega)
    have e3 := val_drop (b := 4294967296) (l := y) (i := i) (by omega)
    have e4 : x.getD i 0 = y.getD i 0 := by omega
    have hv2 : val 4294967296 (x.drop i) = val 4294967296 (y.drop i) := by rw [e2, e3, e4, hv]
    refine xRF (jn h0 (jn h1 (jn h5 (jn g1 (jn g4 g5))))) ?_
    refine ⟨i, by omega, ?_⟩
    (repeat' apply And.intro) <;> first | rfl | omega | assumption | exact hv2
 rintro ⟨ρ, σ, c1⟩ ⟨hv, hσ, hc1⟩
 dsimp only at hσ hc1
 subst hσ hc1
 refine xR ?_
 have : m = n := by omega
 rw [cmpI, if_neg (by omega), if_pos this]
theorem mul_lt32 {x y : Nat} (hx : x < 4294967296) (hy : y < 4294967296) : x * y ≤ 4294967295 * 4294967295 := Nat.mul_le_mul (by omega) (by omega)

theorem at_spec (t : Tok) (l : List Nat) (i c : Nat) (hn : l.length ≤ 4398046511104) : VSpec Tryz.prog F.r01Num_at c [nats t l, iv i] (fun r c' => r = nv (l.getD i 0)) := by
 refine sG hm G.r01Num_at ?_
 unfold C.r01Num_at R.r01Num_at cD
 by_cases g : (i : Int) < l.length
 ·refine xRF g ?_
  exact Nat.le_refl _
 ·refine xRF g ?_
  rw [getD_ge (by omega)]

theorem add32_spec (t u : Tok) (a b : List Nat) (c : Nat) (ha : Lim 4294967296 a) (hb : Lim 4294967296 b) (hna : a.length ≤ 1099511627776) (hnb : b.length ≤ 1099511627776) :
  VSpec Tryz.prog F.r01Add c [nats t a, nats u b] (fun r c' => ∃ i, r = nats (.id i) (digs 4294967296 (val 4294967296 a + val 4294967296 b)) ∧ c ≤ i ∧ i < c') := by
 refine sG hm G.r01Add ?_
 unfold C.r01Add R.r01Add cD
 refine xG ?_
 refine xG ?_
 refine v_cut (fun S => ∃ n, a.length ≤ n ∧ b.length ≤ n ∧ n ≤ 1099511627776 ∧ S.ρ 0 = nats t a ∧ S.ρ 1 = nats u b ∧ S.ρ 5 = iv (n : Int) ∧ S.σ = noBlk ∧ S.c = c) ?_ ?_
 ·by_cases g : (a.length : Int) < b.length
  ·refine xRF g ?_
   exact ⟨b.length, by omega, by omega, by omega, rfl⟩
  ·refine xRF g ?_
   exact ⟨a.length, by omega, by omega, by omega, rfl⟩
 rintro ⟨ρ1, σ, c1⟩ ⟨n, hn1, hn2, hn3, h0, h1, h5, hσ, hc1⟩
 dsimp only at h0 h1 h5 hσ hc1
 subst hσ hc1
 refine xRF h5 ?_
 refine s_mk (n := n + 1) (m := n + 1) (ySrF h5) (ySrF h5) (Nat.le_refl _) (by omega) ?_
 refine xRF h5 ?_
 have htot : val 4294967296 a + val 4294967296 b < 4294967296 ^ (n + 1) := by
  have h1 : val 4294967296 a < 4294967296 ^ n := Nat.lt_of_lt_of_le (val_lt ha) (Nat.pow_le_pow_right (by decide) hn1)
  have h2 : val 4294967296 b < 4294967296 ^ n := Nat.lt_of_lt_of_le (val_lt hb) (Nat.pow_le_pow_right (by decide) hn2)
  rw [Nat.pow_succ]
  generalize 4294967296 ^ n = P at *
  omega
 refine v_loop (fun S => ∃ w, w.length = n + 1 ∧ Lim 4294967296 w ∧ val 4294967296 w = val 4294967296 a + val 4294967296 b ∧ S.ρ 6 = .buf c1 0 (n + 1) (some (n + 1)) 1 ∧ S.σ = supd noBlk c1 (nblk w) ∧ c1 + 1 ≤ S.c) ?_ ?_
 ·refine vwp_loop (fun k S => ∃ i w carry, k = n + 1 - i ∧ i ≤ n + 1 ∧ w.length = i ∧ Lim 4294967296 w ∧ carry ≤ 1 ∧ val 4294967296 w + 4294967296 ^ i * carry = val 4294967296 (a.take i) + val 4294967296 (b.take i) ∧ S.ρ 0 = nats t a ∧ S.ρ 1 = nats u b ∧ S.ρ 5 = iv (n : Int) ∧ S.ρ 7 = nv carry ∧ S.ρ 8 = iv (i : Int) ∧ S.ρ 6 = .buf c1 0 (n + 1) (some (n + 1)) 1 ∧ S.σ = supd noBlk c1 (nblk (w ++ List.replicate (n + 1 - i) 0)) ∧ c1 + 1 ≤ S.c) (n + 1) ?_ ?_
  ·refine ⟨0, [], 0, by omega, by omega, ?_⟩
   refine xSF (jn h0 (jn h1 h5)) ?_
   (repeat' apply And.intro) <;> first | rfl | omega | assumption | exact Lim.nil | (simp [val]; done)
  rintro k ⟨ρ2, σ, c4⟩ ⟨i, w, carry, hk, hi, hw, hlw, hca, hinv, h0, h1, h5, h7, h8, h6, hσ, hc4⟩
  dsimp only at h0 h1 h5 h7 h8 h6 hσ hc4
  subst hσ
  by_cases g : (i : Int) ≤ n
  ·have hxi := ha.getD (i := i) (by decide)
   have hyi := hb.getD (i := i) (by decide)
   have hax := val_take' 4294967296 a i
   have hbx := val_take' 4294967296 b i
   have hlen : (w ++ List.replicate (n + 1 - i) 0).length = n + 1 := by simp; omega
   have hset : ∀ v, (w ++ List.replicate (n + 1 - i) 0).set i v = (w ++ [v]) ++ List.replicate (n + 1 - (i + 1)) 0 := fun v => by
    have := set_fill w (n + 1 - (i + 1)) v
    rw [hw] at this
    rw [show n + 1 - i = n + 1 - (i + 1) + 1 by omega, this]
   refine xRF (jn h0 (jn h1 (jn h5 (jn h7 (jn h8 (jn h6 g)))))) ?_
   refine s_call (at_spec t a i c4 (by omega)) (yMF (jn h0 h8)) ?_
   rintro v c5 hc5 rfl
   refine xRF (jn h0 (jn h1 (jn h5 (jn h7 (jn h8 (jn h6 g)))))) ?_
   refine s_call (at_spec u b i c5 (by omega)) (yMF (jn h1 h8)) ?_
   rintro v c6 hc6 rfl
   generalize a.getD i 0 = x at *
   generalize b.getD i 0 = y at *
   have e1 : (x + y) % 18446744073709551616 = x + y := Nat.mod_eq_of_lt (by omega)
   have e2 : (x + y + carry) % 18446744073709551616 = x + y + carry := Nat.mod_eq_of_lt (by omega)
   have e3 : (x + y + carry) / 4294967296 % 18446744073709551616 = (x + y + carry) / 4294967296 := Nat.mod_eq_of_lt (by omega)
   have hd := Nat.mod_add_div (x + y + carry) 4294967296
   have hml := Nat.mod_lt (x + y + carry) (show 0 < 4294967296 by decide)
   have hdl : (x + y + carry) / 4294967296 ≤ 1 := by omega
   refine xRF (jn h0 (jn h1 (jn h5 (jn h7 (jn h8 (jn h6 (jn e1 (jn e2 (jn e3 (jn hlen hset)))))))))) ?_
   generalize (x + y + carry) % 4294967296 = d at *
   generalize (x + y + carry) / 4294967296 = cc at *
   have key := addb_step (b := 4294967296) (x := y) (y := x) (c' := cc) (d := d) hw hinv (by omega)
   rw [← hax, ← hbx] at key
   refine ⟨n + 1 - (i + 1), by omega, i + 1, w ++ [d], cc, ?_⟩
   (repeat' apply And.intro) <;> first | rfl | exact key | exact lim_snoc hlw hml | (simp [hw]; done) | omega | assumption
  ·have hi' : i = n + 1 := by omega
   subst hi'
   refine xRF (jn h0 (jn h1 (jn h5 (jn h7 (jn h8 (jn h6 g)))))) ?_
   rw [List.take_of_length_le (l := a) (by omega), List.take_of_length_le (l := b) (by omega)] at hinv
   refine ⟨w, ?_⟩
   have e0 : w ++ List.replicate (n + 1 - (n + 1)) 0 = w := by simp
   rw [e0]
   have hc0 : carry = 0 := by
    rcases Nat.eq_zero_or_pos carry with h | h
    ·exact h
    ·have : carry = 1 := by omega
     rw [this, Nat.mul_one] at hinv
     omega
   rw [hc0, Nat.mul_zero, Nat.add_zero] at hinv
   exact yA
 rintro ⟨ρ3, σ, c5⟩ ⟨w, hw, hlw, hvw, h6, hσ, hc5⟩
 dsimp only at h6 hσ hc5
 subst hσ
 refine v_freeze 6 (t := c1) (off := 0) (n := n + 1) (cap := some (n + 1)) (l := w) (ySF h6) yS (by omega) (by omega) ?_
 rw [List.drop_zero, show w.take (n + 1) = w from List.take_of_length_le (by omega)]
 refine xR ?_
 refine s_call (norm32_spec (.id c1) w c5 hlw (by omega)) yM ?_
 rintro v c6 hc6 rfl
 rw [hvw]
 refine xR ?_
 exact ⟨c1, rfl, by omega, by omega⟩

theorem mul32_spec (t u : Tok) (a b : List Nat) (c : Nat) (ha : Lim 4294967296 a) (hb : Lim 4294967296 b) (hna : a.length ≤ 1099511627776) (hnb : b.length ≤ 1099511627776) :
  VSpec Tryz.prog F.r01Mul c [nats t a, nats u b] (fun r c' => ∃ i, r = nats (.id i) (digs 4294967296 (val 4294967296 a * val 4294967296 b)) ∧ c ≤ i ∧ i < c') := by
 refine sG hm G.r01Mul ?_
 unfold C.r01Mul R.r01Mul cD
 refine xR ?_
 refine s_mk (n := a.length + b.length + 1) (m := a.length + b.length + 1) ySr ySr (Nat.le_refl _) (by omega) ?_
 refine xR ?_
 refine v_loop (fun S => ∃ w, w.length = a.length + b.length + 1 ∧ Lim 4294967296 w ∧ val 4294967296 w = val 4294967296 a * val 4294967296 b ∧ S.ρ 5 = .buf c 0 (a.length + b.length + 1) (some (a.length + b.length + 1)) 1 ∧ S.σ = supd noBlk c (nblk w) ∧ c + 1 ≤ S.c) ?_ ?_
 ·refine vwp_loop (fun m S => ∃ i w, m = a.length - i ∧ i ≤ a.length ∧ w.length = i + b.length ∧ Lim 4294967296 w ∧ val 4294967296 w = val 4294967296 (a.take i) * val 4294967296 b ∧ S.ρ 1 = nats u b ∧ S.ρ 5 = .buf c 0 (a.length + b.length + 1) (some (a.length + b.length + 1)) 1 ∧ S.ρ 19 = nats t a ∧ S.ρ 20 = iv a.length ∧ S.ρ 21 = iv i ∧ S.σ = supd noBlk c (nblk (w ++ List.replicate (a.length + 1 - i) 0)) ∧ c + 1 ≤ S.c) a.length ?_ ?_
  ·refine ⟨0, List.replicate b.length 0, by omega, by omega, ?_⟩
   refine xS ?_
   have e0 : List.replicate b.length 0 ++ List.replicate (a.length + 1 - 0) 0 = List.replicate (a.length + b.length + 1) 0 := by
    rw [List.replicate_append_replicate]; congr 1; omega
   (repeat' apply And.intro) <;> first | rfl | omega | assumption | (simp; done) | exact Lim.replicate (by decide) | (rw [val_replicate]; simp [val]; done) | (rw [e0])
  rintro m ⟨ρ2, σ, c4⟩ ⟨i, w, hm', hi, hw, hlw, hinv, h1, h5, h20, h21, h22, hσ, hc4⟩
  dsimp only at h1 h5 h20 h21 h22 hσ hc4
  subst hσ
  by_cases g : (i : Int) < a.length
  ·have hi' : i < a.length := by omega
   have hxi := ha.getD (i := i) (by decide)
   have hx' := val_take' 4294967296 a i
   refine xRF (jn h1 (jn h5 (jn h20 (jn h21 (jn h22 g))))) ?_
   generalize a.getD i 0 = x at *
   refine v_loop (fun S => ∃ w' carry, w'.length = i + b.length ∧ Lim 4294967296 w' ∧ carry < 4294967296 ∧ val 4294967296 w' + 4294967296 ^ (i + b.length) * carry = val 4294967296 w + 4294967296 ^ i * (x * val 4294967296 b) ∧ S.ρ 1 = nats u b ∧ S.ρ 5 = .buf c 0 (a.length + b.length + 1) (some (a.length + b.length + 1)) 1 ∧ S.ρ 6 = iv i ∧ S.ρ 8 = nv carry ∧ S.ρ 19 = nats t a ∧ S.ρ 20 = iv a.length ∧ S.ρ 21 = iv i ∧ S.σ = supd noBlk c (nblk (w' ++ List.replicate (a.length + 1 - i) 0)) ∧ c + 1 ≤ S.c) ?_ ?_
   ·refine vwp_loop (fun m S => ∃ k w' carry, m = b.length - k ∧ k ≤ b.length ∧ w'.length = i + b.length ∧ Lim 4294967296 w' ∧ carry < 4294967296 ∧ val 4294967296 w' + 4294967296 ^ (i + k) * carry = val 4294967296 w + 4294967296 ^ i * (x * val 4294967296 (b.take k)) ∧ S.ρ 1 = nats u b ∧ S.ρ 5 = .buf c 0 (a.length + b.length + 1) (some (a.length + b.length + 1)) 1 ∧ S.ρ 6 = iv i ∧ S.ρ 7 = nv x ∧ S.ρ 8 = nv carry ∧ S.ρ 19 = nats t a ∧ S.ρ 20 = iv a.length ∧ S.ρ 21 = iv i ∧ S.ρ 26 = nats u b ∧ S.ρ 27 = iv b.length ∧ S.ρ 28 = iv k ∧ S.σ = supd noBlk c (nblk (w' ++ List.replicate (a.length + 1 - i) 0)) ∧ c + 1 ≤ S.c) b.length ?_ ?_
    ·refine ⟨0, w, 0, by omega, by omega, ?_⟩
     refine xSF (jn h1 (jn h5 (jn h20 (jn h21 h22)))) ?_
     (repeat' apply And.intro) <;> first | rfl | omega | assumption | (simp [val]; done)
    rintro m ⟨ρ3, σ, c5⟩ ⟨k, w', carry, hm2, hk, hw', hlw', hca, hinv', q1, q5, q6, q7, q8, q20, q21, q22, q27, q28, q29, hσ, hc5⟩
    dsimp only at q1 q5 q6 q7 q8 q20 q21 q22 q27 q28 q29 hσ hc5
    subst hσ
    by_cases g2 : (k : Int) < b.length
    ·have hk' : k < b.length := by omega
     have hyk := hb.getD (i := k) (by decide)
     have hy' := val_take' 4294967296 b k
     have hik : i + k < w'.length := by omega
     have hwk := hlw'.getD (i := i + k) (by decide)
     have key := addAt_step (b := 4294967296) (k := i) (Y := x * val 4294967296 (b.take k)) (y := x * b.getD k 0) (c := carry) hik (by omega) hinv' _ rfl
     rw [show i + k - i = k by omega, Nat.mul_left_comm, ← Nat.mul_add, ← hy'] at key
     have hp32 := mul_lt32 hxi hyk
     have hvlt : x * b.getD k 0 + w'.getD (i + k) 0 + carry < 18446744073709551616 := by omega
     have s0 : x * b.getD k 0 % 18446744073709551616 = x * b.getD k 0 := Nat.mod_eq_of_lt (by omega)
     have s1 : (x * b.getD k 0 + w'.getD (i + k) 0) % 18446744073709551616 = x * b.getD k 0 + w'.getD (i + k) 0 := Nat.mod_eq_of_lt (by omega)
     have s2 : (x * b.getD k 0 + w'.getD (i + k) 0 + carry) % 18446744073709551616 = x * b.getD k 0 + w'.getD (i + k) 0 + carry := Nat.mod_eq_of_lt hvlt
     have s3 : (x * b.getD k 0 + w'.getD (i + k) 0 + carry) / 4294967296 < 4294967296 := by omega
     have s4 : (x * b.getD k 0 + w'.getD (i + k) 0 + carry) / 4294967296 % 18446744073709551616 = (x * b.getD k 0 + w'.getD (i + k) 0 + carry) / 4294967296 := Nat.mod_eq_of_lt (by omega)
     have s5 : w'.getD (i + k) 0 + x * b.getD k 0 + carry = x * b.getD k 0 + w'.getD (i + k) 0 + carry := by omega
     rw [s5] at key
     have eik : ((i : Int) + (k : Int)).toNat = i + k := by omega
     have hget : (w' ++ List.replicate (a.length + 1 - i) 0).getD (i + k) 0 = w'.getD (i + k) 0 := getD_append_left hik
     have hset : ∀ v, (w' ++ List.replicate (a.length + 1 - i) 0).set (i + k) v = w'.set (i + k) v ++ List.replicate (a.length + 1 - i) 0 := fun v => List.set_append_left _ _ hik
     have hlen : (w' ++ List.replicate (a.length + 1 - i) 0).length = a.length + b.length + 1 := by simp; omega
     refine xRF (jn q1 (jn q5 (jn q6 (jn q7 (jn q8 (jn q20 (jn q21 (jn q22 (jn q27 (jn q28 (jn q29 (jn g2 (jn eik (jn hget (jn hset (jn hlen (jn s0 (jn s1 (jn s2 s4))))))))))))))))))) ?_
     refine ⟨b.length - (k + 1), by omega, k + 1, w'.set (i + k) ((x * b.getD k 0 + w'.getD (i + k) 0 + carry) % 4294967296), (x * b.getD k 0 + w'.getD (i + k) 0 + carry) / 4294967296, ?_⟩
     (repeat' apply And.intro) <;> first | rfl | omega | assumption | (rw [List.length_set]; exact hw') | exact hlw'.set (Nat.mod_lt _ (by decide)) | exact key
    ·have hk' : k = b.length := by omega
     subst hk'
     refine xRF (jn q1 (jn q5 (jn q6 (jn q7 (jn q8 (jn q20 (jn q21 (jn q22 (jn q27 (jn q28 (jn q29 g2))))))))))) ?_
     rw [List.take_length] at hinv'
     refine ⟨w', carry, hw', hlw', hca, hinv', ?_⟩
     exact yA
   rintro ⟨ρ3, σ, c5⟩ ⟨w', carry, hw', hlw', hca, hinv', q1, q5, q6, q8, q20, q21, q22, hσ, hc5⟩
   dsimp only at q1 q5 q6 q8 q20 q21 q22 hσ hc5
   subst hσ
   have eib : ((i : Int) + (b.length : Int)).toNat = i + b.length := by omega
   have hlen : (w' ++ List.replicate (a.length + 1 - i) 0).length = a.length + b.length + 1 := by simp; omega
   have hset : ∀ v, (w' ++ List.replicate (a.length + 1 - i) 0).set (i + b.length) v = (w' ++ [v]) ++ List.replicate (a.length + 1 - (i + 1)) 0 := fun v => by
    have := set_fill w' (a.length + 1 - (i + 1)) v
    rw [hw'] at this
    rw [show a.length + 1 - i = a.length + 1 - (i + 1) + 1 by omega, this]
   refine xRF (jn q1 (jn q5 (jn q6 (jn q8 (jn q20 (jn q21 (jn q22 (jn eib (jn hlen hset))))))))) ?_
   refine ⟨a.length - (i + 1), by omega, i + 1, w' ++ [carry], ?_⟩
   have hvv : val 4294967296 (w' ++ [carry]) = val 4294967296 (a.take (i + 1)) * val 4294967296 b := by
    rw [val_append, hw']
    simp only [val, Nat.mul_zero, Nat.add_zero]
    rw [hinv', hinv, hx', Nat.add_mul, Nat.mul_assoc]
   (repeat' apply And.intro) <;> first | rfl | omega | assumption | (simp; omega) | exact lim_snoc hlw' hca | exact hvv
  ·have hi' : i = a.length := by omega
   subst hi'
   refine xRF (jn h1 (jn h5 (jn h20 (jn h21 (jn h22 g))))) ?_
   rw [List.take_length] at hinv
   refine ⟨w ++ [0], ?_⟩
   have e0 : w ++ List.replicate (a.length + 1 - a.length) 0 = w ++ [0] := by rw [show a.length + 1 - a.length = 0 + 1 by omega]; rfl
   rw [e0]
   (repeat' apply And.intro) <;> first | rfl | omega | assumption | (simp; omega) | exact lim_snoc hlw (by decide) | (rw [val_snoc0]; exact hinv)
 rintro ⟨ρ3, σ, c5⟩ ⟨w, hw, hlw, hvw, h5, hσ, hc5⟩
 dsimp only at h5 hσ hc5
 subst hσ
 refine v_freeze 5 (t := c) (off := 0) (n := a.length + b.length + 1) (cap := some (a.length + b.length + 1)) (l := w) (ySF h5) yS (by omega) (by omega) ?_
 rw [List.drop_zero, show w.take (a.length + b.length + 1) = w from List.take_of_length_le (by omega)]
 refine xR ?_
 refine s_call (norm32_spec (.id c) w c5 hlw (by omega)) yM ?_
 rintro v c6 hc6 rfl
 rw [hvw]
 refine xR ?_
 exact ⟨c, rfl, by omega, by omega⟩

theorem len32_bl {n k : Nat} (h : bl n ≤ 32 * k) : (digs 4294967296 n).length ≤ k := by
 refine digs_len two32 ?_
 rw [pow32]
 exact lt_of_bl h
theorem bl_mul_le (m n : Nat) : bl (m * n) ≤ bl m + bl n := by
 refine bl_le ?_
 rw [Nat.pow_add]
 exact Nat.mul_lt_mul'' (lt_bl m) (lt_bl n)
def RefR (c c' n : Nat) (r : V) : Prop := ∃ i, r = nats (.id i) (digs 4294967296 n) ∧ c ≤ i ∧ i < c'
theorem addR (t u : Tok) (m n c : Nat) (hm : bl m ≤ 68719476736) (hn : bl n ≤ 68719476736) : VSpec Tryz.prog F.r01Add c [nats t (digs 4294967296 m), nats u (digs 4294967296 n)] (fun r c' => RefR c c' (m + n) r) := by
 have h := add32_spec t u (digs 4294967296 m) (digs 4294967296 n) c (lim_digs two32 m) (lim_digs two32 n) (Nat.le_trans (len32_bl (k := 2147483648) (by omega)) (by decide)) (Nat.le_trans (len32_bl (k := 2147483648) (by omega)) (by decide))
 rw [val_digs two32, val_digs two32] at h
 exact h
theorem mulR (t u : Tok) (m n c : Nat) (hm : bl m ≤ 68719476736) (hn : bl n ≤ 68719476736) : VSpec Tryz.prog F.r01Mul c [nats t (digs 4294967296 m), nats u (digs 4294967296 n)] (fun r c' => RefR c c' (m * n) r) := by
 have h := mul32_spec t u (digs 4294967296 m) (digs 4294967296 n) c (lim_digs two32 m) (lim_digs two32 n) (Nat.le_trans (len32_bl (k := 2147483648) (by omega)) (by decide)) (Nat.le_trans (len32_bl (k := 2147483648) (by omega)) (by decide))
 rw [val_digs two32, val_digs two32] at h
 exact h
theorem cmpR (t u : Tok) (m n c : Nat) (hm : bl m ≤ 68719476736) (hn : bl n ≤ 68719476736) : VSpec Tryz.prog F.r01Cmp c [nats t (digs 4294967296 m), nats u (digs 4294967296 n)] (fun r _ => r = iv (cmpI m n)) :=
 cmp_spec t u m n c (Nat.le_trans (len32_bl (k := 2147483648) (by omega)) (by decide)) (Nat.le_trans (len32_bl (k := 2147483648) (by omega)) (by decide))
section
variable {P : Program} {dr : Bool} {c0 : Nat} {ρ : Nat → V} {σ : Nat → Option Blk} {c i : Nat} {r : List VO} {K : VS → Prop}
end



theorem sub_digit {x y o d : Nat} (hx : x < 4294967296) (hy : y < 4294967296) (ho : o ≤ 1) (hd : d = (x + 4294967296 - y - o) % 4294967296) : d + y + o = x + 4294967296 * (1 - (x + 4294967296 - y - o) / 4294967296) ∧ 1 - (x + 4294967296 - y - o) / 4294967296 ≤ 1 ∧ d < 4294967296 := by omega
theorem sub_m1 {x y o : Nat} (hx : x < 4294967296) (hy : y < 4294967296) (ho : o ≤ 1) : ((x + 4294967296) % 18446744073709551616 + (18446744073709551616 - y % 18446744073709551616)) % 18446744073709551616 = x + 4294967296 - y ∧ (x + 4294967296 - y + (18446744073709551616 - o % 18446744073709551616)) % 18446744073709551616 = x + 4294967296 - y - o ∧ (x + 4294967296 - y - o) / 4294967296 % 18446744073709551616 = (x + 4294967296 - y - o) / 4294967296 ∧ (1 + (18446744073709551616 - (x + 4294967296 - y - o) / 4294967296)) % 18446744073709551616 = 1 - (x + 4294967296 - y - o) / 4294967296 := by omega

theorem sub32_spec (t u : Tok) (a b : List Nat) (c : Nat) (ha : Lim 4294967296 a) (hb : Lim 4294967296 b) (hna : a.length ≤ 1099511627776) (hnb : b.length ≤ a.length) (hle : val 4294967296 b ≤ val 4294967296 a) :
  VSpec Tryz.prog F.r01Sub c [nats t a, nats u b] (fun r c' => ∃ i, r = nats (.id i) (digs 4294967296 (val 4294967296 a - val 4294967296 b)) ∧ c ≤ i ∧ i < c') := by
 refine sG hm G.r01Sub ?_
 unfold C.r01Sub R.r01Sub cD
 refine xR ?_
 refine s_mk (n := a.length) (m := a.length) yS yS (Nat.le_refl _) (by omega) ?_
 refine xR ?_
 refine v_loop (fun S => ∃ w, w.length = a.length ∧ Lim 4294967296 w ∧ val 4294967296 w = val 4294967296 a - val 4294967296 b ∧ S.ρ 5 = .buf c 0 a.length (some a.length) 1 ∧ S.σ = supd noBlk c (nblk w) ∧ c + 1 ≤ S.c) ?_ ?_
 ·refine vwp_loop (fun k S => ∃ i w o, k = a.length - i ∧ i ≤ a.length ∧ w.length = i ∧ Lim 4294967296 w ∧ o ≤ 1 ∧ val 4294967296 w + val 4294967296 (b.take i) = val 4294967296 (a.take i) + 4294967296 ^ i * o ∧ S.ρ 0 = nats t a ∧ S.ρ 1 = nats u b ∧ S.ρ 13 = iv (a.length : Int) ∧ S.ρ 6 = nv o ∧ S.ρ 14 = iv (i : Int) ∧ S.ρ 5 = .buf c 0 a.length (some a.length) 1 ∧ S.σ = supd noBlk c (nblk (w ++ List.replicate (a.length - i) 0)) ∧ c + 1 ≤ S.c) a.length ?_ ?_
  ·refine ⟨0, [], 0, by omega, by omega, ?_⟩
   refine xS ?_
   (repeat' apply And.intro) <;> first | rfl | omega | assumption | exact Lim.nil | (simp [val]; done)
  rintro k ⟨ρ2, σ, c4⟩ ⟨i, w, o, hk, hi, hw, hlw, ho, hinv, h0, h1, h13, h6, h14, h5, hσ, hc4⟩
  dsimp only at h0 h1 h13 h6 h14 h5 hσ hc4
  subst hσ
  by_cases g : (i : Int) < a.length
  ·have hi' : i < a.length := by omega
   have hxi := ha.getD (i := i) (by decide)
   have hyi := hb.getD (i := i) (by decide)
   have hax := val_take' 4294967296 a i
   have hbx := val_take' 4294967296 b i
   have hlen : (w ++ List.replicate (a.length - i) 0).length = a.length := by simp; omega
   have hset : ∀ v, (w ++ List.replicate (a.length - i) 0).set i v = (w ++ [v]) ++ List.replicate (a.length - (i + 1)) 0 := fun v => by
    have := set_fill w (a.length - (i + 1)) v
    rw [hw] at this
    rw [show a.length - i = a.length - (i + 1) + 1 by omega, this]
   refine xRF (jn h0 (jn h1 (jn h13 (jn h6 (jn h14 (jn h5 g)))))) ?_
   refine s_call (at_spec u b i c4 (by omega)) (yMF (jn h1 h14)) ?_
   rintro v c5 hc5 rfl
   generalize a.getD i 0 = x at *
   generalize b.getD i 0 = y at *
   obtain ⟨m1, m2, m3, m4⟩ := sub_m1 hxi hyi ho
   obtain ⟨d1, d2, d3⟩ := sub_digit hxi hyi ho rfl
   refine xRF (jn h0 (jn h1 (jn h13 (jn h6 (jn h14 (jn h5 (jn hlen (jn hset (jn m1 (jn m2 (jn m3 m4))))))))))) ?_
   have key := sub_step (b := 4294967296) hw hinv d1
   rw [← hax, ← hbx] at key
   generalize 1 - (x + 4294967296 - y - o) / 4294967296 = o' at *
   generalize (x + 4294967296 - y - o) % 4294967296 = d at *
   refine ⟨a.length - (i + 1), by omega, i + 1, w ++ [d], o', ?_⟩
   (repeat' apply And.intro) <;> first | rfl | exact key | exact lim_snoc hlw d3 | (simp [hw]; done) | omega | assumption
  ·have hi' : i = a.length := by omega
   subst hi'
   refine xRF (jn h0 (jn h1 (jn h13 (jn h6 (jn h14 (jn h5 g)))))) ?_
   rw [List.take_of_length_le (l := a) (by omega), List.take_of_length_le (l := b) (by omega)] at hinv
   refine ⟨w, ?_⟩
   have e0 : w ++ List.replicate (a.length - a.length) 0 = w := by simp
   rw [e0]
   have hwl := val_lt hlw
   rw [hw] at hwl
   have hc0 : o = 0 := by
    rcases Nat.eq_zero_or_pos o with h | h
    ·exact h
    ·have : o = 1 := by omega
     rw [this, Nat.mul_one] at hinv
     omega
   rw [hc0, Nat.mul_zero, Nat.add_zero] at hinv
   exact yA
 rintro ⟨ρ3, σ, c5⟩ ⟨w, hw, hlw, hvw, h5, hσ, hc5⟩
 dsimp only at h5 hσ hc5
 subst hσ
 refine v_freeze 5 (t := c) (off := 0) (n := a.length) (cap := some a.length) (l := w) (ySF h5) yS (by omega) (by omega) ?_
 rw [List.drop_zero, show w.take a.length = w from List.take_of_length_le (by omega)]
 refine xR ?_
 refine s_call (norm32_spec (.id c) w c5 hlw (by omega)) yM ?_
 rintro v c6 hc6 rfl
 rw [hvw]
 refine xR ?_
 exact ⟨c, rfl, by omega, by omega⟩

theorem shl32_low {x s : Nat} (hs : s ≤ 31) (hx : x < 4294967296) : x * 2 ^ s % 18446744073709551616 = x * 2 ^ s ∧ x * 2 ^ s % 4294967296 + 2 ^ s ≤ 4294967296 ∧ x * 2 ^ s / 4294967296 < 2 ^ s ∧ x * 2 ^ s / 4294967296 % 18446744073709551616 = x * 2 ^ s / 4294967296 ∧ 2 ^ s ≤ 2147483648 := by
 have h31 : 2 ^ s ≤ 2 ^ 31 := Nat.pow_le_pow_right (by decide) hs
 have hp : 0 < 2 ^ s := Nat.two_pow_pos s
 have hlt : x * 2 ^ s < 4294967296 * 2 ^ s := Nat.mul_lt_mul_of_pos_right hx hp
 have h32 : 4294967296 = 2 ^ (32 - s) * 2 ^ s := by rw [← Nat.pow_add, show 32 - s + s = 32 by omega]
 have hlow : x * 2 ^ s % 4294967296 + 2 ^ s ≤ 4294967296 := by
  have e : x * 2 ^ s % 4294967296 = (x % 2 ^ (32 - s)) * 2 ^ s := by rw [h32, Nat.mul_mod_mul_right]
  rw [e, ← Nat.succ_mul, h32]
  exact Nat.mul_le_mul_right _ (Nat.mod_lt _ (Nat.two_pow_pos _))
 have hdiv : x * 2 ^ s / 4294967296 < 2 ^ s := Nat.div_lt_of_lt_mul hlt
 have h1 : x * 2 ^ s < 18446744073709551616 := by
  have : 4294967296 * 2 ^ s ≤ 4294967296 * 2 ^ 31 := Nat.mul_le_mul_left _ h31
  omega
 exact ⟨Nat.mod_eq_of_lt h1, hlow, hdiv, Nat.mod_eq_of_lt (by omega), by omega⟩

theorem shl32_spec (t : Tok) (a : List Nat) (n c : Nat) (ha : Lim 4294967296 a) (hna : a.length ≤ 1099511627776) (hn : n ≤ 1099511627776) :
  VSpec Tryz.prog F.r01Shl c [nats t a, iv n] (fun r c' => (a = [] ∧ r = nil1) ∨ ∃ i, r = nats (.id i) (digs 4294967296 (val 4294967296 a * 2 ^ n)) ∧ c ≤ i ∧ i < c') := by
 refine sG hm G.r01Shl ?_
 unfold C.r01Shl R.r01Shl cD
 by_cases g0 : (a.length : Int) = 0
 ·refine xRF g0 ?_
  exact .inl (List.eq_nil_of_length_eq_zero (by omega))
 obtain ⟨q, hq⟩ : ∃ q, q = n / 32 := ⟨_, rfl⟩
 obtain ⟨s, hs⟩ : ∃ s, s = n % 32 := ⟨_, rfl⟩
 have hs31 : s ≤ 31 := by omega
 have eq1 : (n : Int) / 32 = (q : Int) := by omega
 have es1 : (n : Int) % 32 = (s : Int) := by omega
 have el : (a.length : Int) + (q : Int) + 1 = ((q + a.length + 1 : Nat) : Int) := by omega
 refine xRF (jn g0 (jn eq1 el)) ?_
 refine s_mk (n := q + a.length + 1) (m := q + a.length + 1) yS yS (Nat.le_refl _) (by omega) ?_
 refine xRF es1 ?_
 refine v_loop (fun S => ∃ w, w.length = q + a.length + 1 ∧ Lim 4294967296 w ∧ val 4294967296 w = val 4294967296 a * 2 ^ n ∧ S.ρ 5 = .buf c 0 (q + a.length + 1) (some (q + a.length + 1)) 1 ∧ S.σ = supd noBlk c (nblk w) ∧ c + 1 ≤ S.c) ?_ ?_
 ·refine vwp_loop (fun k S => ∃ i w o, k = a.length - i ∧ i ≤ a.length ∧ w.length = i ∧ Lim 4294967296 w ∧ o < 2 ^ s ∧ val 4294967296 (w ++ [o]) = val 4294967296 (a.take i) * 2 ^ s ∧ S.ρ 1 = iv (n : Int) ∧ S.ρ 6 = iv (s : Int) ∧ S.ρ 21 = nats t a ∧ S.ρ 22 = iv (a.length : Int) ∧ S.ρ 23 = iv (i : Int) ∧ S.ρ 5 = .buf c 0 (q + a.length + 1) (some (q + a.length + 1)) 1 ∧ S.σ = supd noBlk c (nblk ((List.replicate q 0 ++ w) ++ o :: List.replicate (a.length - i) 0)) ∧ c + 1 ≤ S.c) a.length ?_ ?_
  ·refine ⟨0, [], 0, by omega, by omega, ?_⟩
   refine xS ?_
   have e0 : List.replicate (q + a.length + 1) 0 = (List.replicate q 0 ++ []) ++ 0 :: List.replicate (a.length - 0) 0 := by
    rw [List.append_nil, ← List.replicate_succ, List.replicate_append_replicate]; rfl
   rw [e0]
   (repeat' apply And.intro) <;> first | rfl | omega | assumption | exact Lim.nil | exact Nat.two_pow_pos s | (simp [val]; done)
  rintro k ⟨ρ2, σ, c4⟩ ⟨i, w, o, hk, hi, hw, hlw, ho, hinv, h1, h6, h21, h22, h23, h5, hσ, hc4⟩
  dsimp only at h1 h6 h21 h22 h23 h5 hσ hc4
  subst hσ
  by_cases g : (i : Int) < a.length
  ·have hi' : i < a.length := by omega
   have hxi := ha.getD (i := i) (by decide)
   have hax := val_take' 4294967296 a i
   obtain ⟨m1, m2, m3, m4, m5⟩ := shl32_low hs31 hxi
   have hql : (List.replicate q 0 ++ w).length = i + q := by simp [hw]; omega
   have eiq : ((i : Int) + (q : Int)).toNat = i + q := by omega
   have eiq1 : ((i : Int) + (q : Int) + 1).toNat = i + q + 1 := by omega
   have hlen : ((List.replicate q 0 ++ w) ++ o :: List.replicate (a.length - i) 0).length = q + a.length + 1 := by simp [hw]; omega
   have hget : ((List.replicate q 0 ++ w) ++ o :: List.replicate (a.length - i) 0).getD (i + q) 0 = o := by rw [← hql]; exact getD_at _ _ _
   have hset1 : ∀ v, ((List.replicate q 0 ++ w) ++ o :: List.replicate (a.length - i) 0).set (i + q) v = (List.replicate q 0 ++ w) ++ v :: List.replicate (a.length - i) 0 := fun v => by rw [← hql]; exact set_at _ _ _ _
   have hset2 : ∀ v v', ((List.replicate q 0 ++ w) ++ v :: List.replicate (a.length - i) 0).set (i + q + 1) v' = (List.replicate q 0 ++ (w ++ [v])) ++ v' :: List.replicate (a.length - (i + 1)) 0 := fun v v' => by
    have e : (List.replicate q 0 ++ w) ++ v :: List.replicate (a.length - i) 0 = (List.replicate q 0 ++ (w ++ [v])) ++ 0 :: List.replicate (a.length - (i + 1)) 0 := by
     rw [show a.length - i = a.length - (i + 1) + 1 by omega, List.replicate_succ]; simp
    rw [e, show i + q + 1 = (List.replicate q 0 ++ (w ++ [v])).length by simp [hw]; omega]
    exact set_at _ _ _ _
   have hlen2 : ∀ v, ((List.replicate q 0 ++ w) ++ v :: List.replicate (a.length - i) 0).length = q + a.length + 1 := fun v => by simp [hw]; omega
   have emin : min s 64 = s := by omega
   have hod : (o + a.getD i 0 * 2 ^ s % 4294967296) % 18446744073709551616 = o + a.getD i 0 * 2 ^ s % 4294967296 := Nat.mod_eq_of_lt (by omega)
   have hstep := shl_step (b := 4294967296) (lo := a.getD i 0 * 2 ^ s % 4294967296) (hi := a.getD i 0 * 2 ^ s / 4294967296) (x := a.getD i 0) (P := 2 ^ s) hw hinv (by omega)
   refine xRF (jn h1 (jn h6 (jn h21 (jn h22 (jn h23 (jn h5 (jn g (jn eq1 (jn eiq (jn eiq1 (jn hlen (jn hlen2 (jn hget (jn hset1 (jn hset2 (jn emin (jn m1 (jn m4 hod)))))))))))))))))) ?_
   refine ⟨a.length - (i + 1), by omega, i + 1, w ++ [o + a.getD i 0 * 2 ^ s % 4294967296], a.getD i 0 * 2 ^ s / 4294967296, ?_⟩
   have key : val 4294967296 ((w ++ [o + a.getD i 0 * 2 ^ s % 4294967296]) ++ [a.getD i 0 * 2 ^ s / 4294967296]) = val 4294967296 (a.take (i + 1)) * 2 ^ s := by
    rw [hstep, hax, Nat.add_mul, Nat.mul_assoc]
   have hlw2 := lim_snoc (v := o + a.getD i 0 * 2 ^ s % 4294967296) hlw (by omega)
   (repeat' apply And.intro) <;> first | rfl | exact key | exact hlw2 | exact m3 | (simp [hw]; done) | omega | assumption
  ·have hi' : i = a.length := by omega
   subst hi'
   refine xRF (jn h1 (jn h6 (jn h21 (jn h22 (jn h23 (jn h5 g)))))) ?_
   rw [List.take_length] at hinv
   refine ⟨List.replicate q 0 ++ (w ++ [o]), ?_⟩
   have hwl : Lim 4294967296 (w ++ [o]) := lim_snoc hlw (by have := Nat.pow_le_pow_right (n := 2) (by decide) hs31; omega)
   have key : val 4294967296 (List.replicate q 0 ++ (w ++ [o])) = val 4294967296 a * 2 ^ n := by
    rw [val_zeros, hinv, pow32, Nat.mul_left_comm, ← Nat.pow_add, show 32 * q + s = n by omega]
   have e0 : (List.replicate q 0 ++ w) ++ o :: List.replicate (a.length - a.length) 0 = List.replicate q 0 ++ (w ++ [o]) := by simp
   rw [e0]
   (repeat' apply And.intro) <;> first | rfl | omega | assumption | exact key | exact (Lim.replicate (by decide)).append hwl | (simp [hw]; omega)
 rintro ⟨ρ3, σ, c5⟩ ⟨w, hw, hlw, hvw, h5, hσ, hc5⟩
 dsimp only at h5 hσ hc5
 subst hσ
 refine v_freeze 5 (t := c) (off := 0) (n := q + a.length + 1) (cap := some (q + a.length + 1)) (l := w) (ySF h5) yS (by omega) (by omega) ?_
 rw [List.drop_zero, show w.take (q + a.length + 1) = w from List.take_of_length_le (by omega)]
 refine xR ?_
 refine s_call (norm32_spec (.id c) w c5 hlw (by omega)) yM ?_
 rintro v c6 hc6 rfl
 rw [hvw]
 refine xR ?_
 exact .inr ⟨c, rfl, by omega, by omega⟩

theorem lenR (t : Tok) (n c : Nat) (hn : bl n ≤ 68719476736) : VSpec Tryz.prog F.r01Num_Len c [nats t (digs 4294967296 n)] (fun r _ => r = iv (bl n)) :=
 len_spec t n c (Nat.le_trans (len32_bl (k := 2147483648) (by omega)) (by decide))
theorem subR (t u : Tok) (m n c : Nat) (hm : bl m ≤ 68719476736) (hle : n ≤ m) : VSpec Tryz.prog F.r01Sub c [nats t (digs 4294967296 m), nats u (digs 4294967296 n)] (fun r c' => RefR c c' (m - n) r) := by
 have h := sub32_spec t u (digs 4294967296 m) (digs 4294967296 n) c (lim_digs two32 m) (lim_digs two32 n) (Nat.le_trans (len32_bl (k := 2147483648) (by omega)) (by decide)) (le_len two32 hle) (by rw [val_digs two32, val_digs two32]; exact hle)
 rw [val_digs two32, val_digs two32] at h
 exact h
theorem intR (n c : Nat) (hn : n < 9223372036854775808) : VSpec Tryz.prog F.r01Int c [iv n] (fun r c' => RefR c c' n r) := int_spec n c hn
theorem shlR (t : Tok) (m n c : Nat) (hm : bl m ≤ 68719476736) (hm0 : 0 < m) (hn : n ≤ 1099511627776) : VSpec Tryz.prog F.r01Shl c [nats t (digs 4294967296 m), iv n] (fun r c' => RefR c c' (m * 2 ^ n) r) := by
 have h := shl32_spec t (digs 4294967296 m) n c (lim_digs two32 m) (Nat.le_trans (len32_bl (k := 2147483648) (by omega)) (by decide)) hn
 rw [val_digs two32] at h
 refine h.mono ?_
 rintro r c' (⟨h1, _⟩ | h1)
 ·exact absurd ((digs_eq_nil two32).1 h1) (by omega)
 ·exact h1

end Go.Proofs.YtcafgpconlkecaaGreatDoor
namespace Go.VM
end Go.VM
namespace Go.Proofs.YtcafgpconlkecaaGreatDoor
open Go.VM

theorem u_and1 {b : Bool} {x : Nat} : sbin .and b (nv x) (nv 1) = some (nv (x % 2)) := by
 have e : (BitVec.ofInt 64 (x : Int) &&& BitVec.ofInt 64 1).toNat = x % 2 := by
  simp only [BitVec.ofInt_natCast, BitVec.toNat_and, BitVec.toNat_ofNat]
  have h := Nat.and_two_pow_sub_one_eq_mod (x % 2 ^ 64) 1
  show (x % 2 ^ 64) &&& (2 ^ 1 - 1) = _
  rw [h]
  omega
 show some (V.lit (.int .u64 (IntKind.u64.wrap ((BitVec.ofInt 64 (x : Int) &&& BitVec.ofInt 64 1).toNat : Int)))) = _
 rw [e, wrap_u64 (by omega) (by omega)]

theorem bit0_spec (t : Tok) (a : List Nat) (c : Nat) (ha : Lim 18446744073709551616 a) (hna : a.length ≤ 1099511627776) : VSpec Tryz.prog F.nat_Bit c [nats t a, iv 0] (fun r _ => r = iv ((val 18446744073709551616 a % 2 : Nat) : Int)) := by
 refine sG hm G.nat_Bit ?_
 unfold C.nat_Bit R.nat_Bit cD
 have g1 : ¬ (0 : Int) < 0 := by decide
 have e1 : (0 : Int) / 64 = 0 := by decide
 have e2 : (0 : Int) % 64 = 0 := by decide
 have e3 : (0 : Int).toNat = 0 := rfl
 cases a with
 | nil =>
  have g2 : (([] : List Nat).length : Int) ≤ 0 := by decide
  refine xRF (jn g1 (jn e1 g2)) ?_
  rfl
 | cons x l =>
  have g2 : ¬ ((x :: l).length : Int) ≤ 0 := by simp only [List.length_cons]; omega
  have e4 : min 0 64 = 0 := by decide
  have e5 : (x :: l).getD 0 0 = x := rfl
  have e6 : x / 2 ^ 0 = x := by rw [Nat.pow_zero, Nat.div_one]
  refine xRF (jn g1 (jn e1 (jn e2 (jn e3 (jn e4 (jn e5 (jn e6 (jn g2 @u_and1)))))))) ?_
  rw [val]
  congr 2
  omega

end Go.Proofs.YtcafgpconlkecaaGreatDoor
namespace Go.Proofs.YtcafgpconlkecaaGreatDoor
open Go.VM

theorem zero_spec (t : Tok) (n c : Nat) (hn : (digs 4294967296 n).length ≤ 4398046511104) : VSpec Tryz.prog F.r01Num_Zero c [nats t (digs 4294967296 n)] (fun r _ => r = bv (decide (n = 0))) := by
 refine sG hm G.r01Num_Zero ?_
 unfold C.r01Num_Zero R.r01Num_Zero cD
 have hz := digs_eq_nil two32 (n := n)
 refine xR ?_
 by_cases g : n = 0
 ·rw [hz.2 g, g]; rfl
 ·have h1 : ¬ digs 4294967296 n = [] := fun e => g (hz.1 e)
  have h2 : 0 < (digs 4294967296 n).length := List.length_pos_iff.2 h1
  have h3 : decide (((digs 4294967296 n).length : Int) = 0) = decide (n = 0) := by rw [decide_eq_false (show ¬ ((digs 4294967296 n).length : Int) = 0 by omega), decide_eq_false g]
  rw [h3]
end Go.Proofs.YtcafgpconlkecaaGreatDoor
namespace Go.VM
def tz (n : Nat) : Nat := if h : n = 0 then 0 else if n % 2 = 1 then 0 else tz (n / 2) + 1
termination_by n
decreasing_by omega
theorem tz_zero : tz 0 = 0 := by rw [tz]; rfl
theorem tz_odd {n : Nat} (h : n % 2 = 1) : tz n = 0 := by
 rw [tz, dif_neg (by omega), if_pos h]
theorem tz_even {n : Nat} (h0 : n ≠ 0) (h : n % 2 = 0) : tz n = tz (n / 2) + 1 := by
 rw [tz, dif_neg h0, if_neg (by omega)]
theorem tz_two (n : Nat) (h : n ≠ 0) : tz (2 * n) = tz n + 1 := by
 rw [tz_even (by omega) (by omega), Nat.mul_div_cancel_left _ (by decide)]
theorem tz_pow {n : Nat} (h : n ≠ 0) : ∀ k, tz (2 ^ k * n) = k + tz n
 | 0 => by simp
 | k + 1 => by
  have hp : 0 < 2 ^ k := Nat.two_pow_pos k
  have e : 2 ^ (k + 1) * n = 2 * (2 ^ k * n) := by rw [Nat.pow_succ, Nat.mul_comm (2 ^ k) 2, Nat.mul_assoc]
  rw [e, tz_two _ (Nat.mul_ne_zero (by omega) h), tz_pow h k]
  omega
def od (n : Nat) : Nat := n / 2 ^ tz n
theorem tz_od {n : Nat} (h : n ≠ 0) : n = 2 ^ tz n * od n ∧ od n % 2 = 1 := by
 induction n using Nat.strongRecOn with
 | _ n ih =>
  rcases Nat.mod_two_eq_zero_or_one n with g | g
  ·obtain ⟨m, rfl⟩ : ∃ m, n = 2 * m := ⟨n / 2, by omega⟩
   have hm : m ≠ 0 := by omega
   obtain ⟨h1, h2⟩ := ih m (by omega) hm
   have e := tz_two m hm
   have e2 : od (2 * m) = od m := by
    unfold od
    rw [e, Nat.pow_succ, Nat.mul_comm (2 ^ tz m) 2, Nat.mul_div_mul_left _ _ (by decide)]
   rw [e2, e]
   refine ⟨?_, h2⟩
   rw [Nat.pow_succ, Nat.mul_comm (2 ^ tz m) 2, Nat.mul_assoc, ← h1]
  ·have e := tz_odd g
   unfold od
   rw [e]
   simp [g]
theorem tz_uniq {n k m : Nat} (h : n = 2 ^ k * m) (hm : m % 2 = 1) : tz n = k ∧ od n = m := by
 have e : tz n = k := by rw [h, tz_pow (by omega), tz_odd hm]; rfl
 refine ⟨e, ?_⟩
 unfold od
 rw [e, h, Nat.mul_div_cancel_left _ (Nat.two_pow_pos k)]
theorem od_zero : od 0 = 0 := by unfold od; rw [Nat.zero_div]
theorem od_pos {n : Nat} (h : n ≠ 0) : 0 < od n := by have := (tz_od h).2; omega
theorem tz_lt {n k : Nat} (h0 : n ≠ 0) (h : n < 2 ^ k) : tz n < k := by
 obtain ⟨h1, h2⟩ := tz_od h0
 have h3 : 2 ^ tz n ≤ n := by
  have := Nat.mul_le_mul_left (2 ^ tz n) (od_pos h0)
  omega
 exact (Nat.pow_lt_pow_iff_right (by decide : 1 < 2)).1 (Nat.lt_of_le_of_lt h3 h)
theorem tz_low {x r k : Nat} (hx0 : x ≠ 0) (hx : x < 2 ^ k) : tz (x + 2 ^ k * r) = tz x := by
 obtain ⟨h1, h2⟩ := tz_od hx0
 have hk := tz_lt hx0 hx
 obtain ⟨j, hj⟩ : ∃ j, k = tz x + 1 + j := ⟨k - tz x - 1, by omega⟩
 refine (tz_uniq (n := x + 2 ^ k * r) (k := tz x) (m := od x + 2 * (2 ^ j * r)) ?_ (by omega)).1
 have e : 2 ^ k * r = 2 ^ tz x * (2 * (2 ^ j * r)) := by
  rw [hj, Nat.pow_add, Nat.pow_succ]; ac_rfl
 rw [Nat.mul_add, ← h1, e]
theorem low_bit {x k : Nat} (h0 : 0 < x) (hk : x < 2 ^ k) : x &&& (2 ^ k - x) = 2 ^ tz x := by
 obtain ⟨h1, h2⟩ := tz_od (n := x) (by omega)
 obtain ⟨y, rfl⟩ : ∃ y, x = y + 1 := ⟨x - 1, by omega⟩
 obtain ⟨j, hj⟩ : ∃ j, od (y + 1) = 2 * j + 1 := ⟨od (y + 1) / 2, by omega⟩
 have ht := tz_lt (n := y + 1) (by omega) hk
 generalize tz (y + 1) = t at *
 generalize od (y + 1) = o at *
 subst hj
 have hp : 0 < 2 ^ t := Nat.two_pow_pos t
 have ey : y = 2 ^ t * (2 * j) + (2 ^ t - 1) := by
  have : 2 ^ t * (2 * j + 1) = 2 ^ t * (2 * j) + 2 ^ t := by rw [Nat.mul_add, Nat.mul_one]
  omega
 have ex : y + 1 = 2 ^ t * (2 * j + 1) + 0 := by omega
 refine Nat.eq_of_testBit_eq fun i => ?_
 rw [Nat.testBit_and, Nat.testBit_two_pow_sub_succ (by omega), Nat.testBit_two_pow]
 rw [show (y + 1).testBit i = (2 ^ t * (2 * j + 1) + 0).testBit i by rw [← ex], show y.testBit i = (2 ^ t * (2 * j) + (2 ^ t - 1)).testBit i by rw [← ey]]
 rw [Nat.testBit_two_pow_mul_add _ (by omega), Nat.testBit_two_pow_mul_add _ (by omega)]
 by_cases g : i < t
 ·rw [if_pos g, if_pos g]
  have : ¬ t = i := by omega
  simp [this]
 ·rw [if_neg g, if_neg g]
  rcases Nat.lt_or_ge t i with g2 | g2
  ·obtain ⟨d, hd⟩ : ∃ d, i - t = d + 1 := ⟨i - t - 1, by omega⟩
   have e1 : (2 * j + 1).testBit (d + 1) = j.testBit d := by rw [Nat.testBit_succ, show (2 * j + 1) / 2 = j by omega]
   have e2 : (2 * j).testBit (d + 1) = j.testBit d := by rw [Nat.testBit_succ, show (2 * j) / 2 = j by omega]
   have : ¬ t = i := by omega
   rw [hd, e1, e2]
   cases j.testBit d <;> simp [this]
  ·have : t = i := by omega
   subst this
   have hk2 : t < k := ht
   simp [hk2, Nat.testBit_zero]
def dbTab : List Nat := [0, 1, 56, 2, 57, 49, 28, 3, 61, 58, 42, 50, 38, 29, 17, 4, 62, 47, 59, 36, 45, 43, 51, 22, 53, 39, 33, 30, 24, 18, 12, 5, 63, 55, 48, 27, 60, 41, 37, 16, 46, 35, 44, 21, 52, 32, 23, 11, 54, 26, 40, 15, 34, 20, 31, 10, 25, 14, 19, 9, 13, 8, 7, 6]
theorem db_ok : ∀ k, k < 64 → (2 ^ k * 285870213051353865 % 18446744073709551616) / 288230376151711744 < 64 ∧ dbTab[(2 ^ k * 285870213051353865 % 18446744073709551616) / 288230376151711744]? = some k := by decide
theorem db_tz {x : Nat} (h0 : 0 < x) (hx : x < 18446744073709551616) : ((x &&& (18446744073709551616 - x)) * 285870213051353865 % 18446744073709551616) / 288230376151711744 < 64 ∧ dbTab[((x &&& (18446744073709551616 - x)) * 285870213051353865 % 18446744073709551616) / 288230376151711744]? = some (tz x) := by
 have h := low_bit (k := 64) h0 hx
 have h2 : x &&& (18446744073709551616 - x) = 2 ^ tz x := h
 rw [h2]
 exact db_ok (tz x) (tz_lt (k := 64) (by omega) hx)
end Go.VM
namespace Go.VM

def boxS (P : Program) (dr : Bool) (c0 : Nat) (a : Option (List V)) (i : Nat) (ρ : Nat → V) (σ : Nat → Option Blk) (c : Nat) (r : List VO) (K : VS → Prop) : Prop := ∃ l, a = some l ∧ wps P dr c0 r ⟨upd ρ i (.ptr c 0), supd σ c (some ⟨l, true⟩), c + 1⟩ K
def boxAS (P : Program) (dr : Bool) (c0 n : Nat) (b : Option Blk) (a : Option (List V)) (i : Nat) (ρ : Nat → V) (σ : Nat → Option Blk) (c : Nat) (r : List VO) (K : VS → Prop) : Prop := b = none ∧ ∃ l, a = some l ∧ l.length = n ∧ wps P dr c0 r ⟨upd ρ i (.ptr c 0), supd σ c (some ⟨l, true⟩), c + 1⟩ K
section
variable {P : Program} {dr : Bool} {c0 : Nat} {S : VS} {r : List VO} {K : VS → Prop} {d : Option Nat} {i c : Nat} {ρ : Nat → V} {σ : Nat → Option Blk}
theorem q_alloc {z : List Value} : wps P dr c0 (⟨some i, .alloc z, none⟩ :: r) ⟨ρ, σ, c⟩ K = wps P dr c0 r ⟨upd ρ i (.ptr c 0), supd σ c (some ⟨vlits z, true⟩), c + 1⟩ K := by
 refine propext ⟨fun h => ?_, fun h => s_alloc h⟩
 obtain ⟨v, σ', c', kt, h, hk⟩ := opS_eff h
 cases h with
 | pure h => simp [vpure] at h
 | alloc => exact hk
theorem q_box {x : X} : wps P dr c0 (⟨some i, .box x, none⟩ :: r) ⟨ρ, σ, c⟩ K = boxS P dr c0 (x.ev ρ).cells i ρ σ c r K := by
 refine propext ⟨fun h => ?_, fun ⟨l, h1, h2⟩ => s_box h1 h2⟩
 obtain ⟨v, σ', c', kt, h, hk⟩ := opS_eff h
 cases h with
 | pure h => simp [vpure] at h
 | box h => exact ⟨_, h, hk⟩
theorem q_boxA {n : Nat} {x : X} : wps P dr c0 (⟨some i, .boxA n x, none⟩ :: r) ⟨ρ, σ, c⟩ K = boxAS P dr c0 n (σ c) (x.ev ρ).cells i ρ σ c r K := by
 refine propext ⟨fun h => ?_, fun ⟨h0, l, h1, hn, h2⟩ => s_boxA h1 hn h0 h2⟩
 obtain ⟨v, σ', c', kt, h, hk⟩ := opS_eff h
 cases h with
 | pure h => simp [vpure] at h
 | boxA hf h hn => exact ⟨hf, _, h, hn, hk⟩
theorem all_offL {p : V} {e : Nat → V} : ∀ {ys : List Nat}, (∀ i ∈ ys, V.offp p (e i)) → offL p (ys.map e)
 | [], _ => trivial
 | y :: ys, h => ⟨h y List.mem_cons_self, all_offL fun i hi => h i (List.mem_cons_of_mem _ hi)⟩
theorem q_storeA {n : Nat} {x y : X} {ys : List Nat} : wps P dr c0 (⟨none, .storeA n x y ys, none⟩ :: r) ⟨ρ, σ, c⟩ K = offS P dr c0 (x.ev ρ) (ys.map ρ) (vstore σ n (x.ev ρ) (y.ev ρ)) ρ c r K := by
 refine propext ⟨fun h => ?_, fun h => s_storeA h⟩
 obtain ⟨v, σ', c', kt, h, hk⟩ := opS_eff h
 cases h with
 | pure h => simp [vpure] at h
 | storeA ha h => exact ⟨all_offL ha, _, h, hk⟩
theorem offS_eq {p : V} {l : List V} {a : Option (Nat → Option Blk)} : offS P dr c0 p l a ρ c r K = (offL p l ∧ putS P dr c0 a ρ c r K) := Eq.trans rfl rfl
theorem boxS_some {l : List V} : boxS P dr c0 (some l) i ρ σ c r K = wps P dr c0 r ⟨upd ρ i (.ptr c 0), supd σ c (some ⟨l, true⟩), c + 1⟩ K := by simp [boxS]
theorem boxAS_some {n : Nat} {l : List V} : boxAS P dr c0 n none (some l) i ρ σ c r K = (l.length = n ∧ wps P dr c0 r ⟨upd ρ i (.ptr c 0), supd σ c (some ⟨l, true⟩), c + 1⟩ K) := by simp [boxAS]
theorem boxS_congr {a b : Option (List V)} (h : a = b) : boxS P dr c0 a i ρ σ c r K = boxS P dr c0 b i ρ σ c r K := by rw [h]
theorem boxAS_congr {n : Nat} {a b : Option (List V)} {p q : Option Blk} (h : a = b) (g : p = q) : boxAS P dr c0 n p a i ρ σ c r K = boxAS P dr c0 n q b i ρ σ c r K := by rw [h, g]
theorem offS_congr {p q : V} {l m : List V} {a b : Option (Nat → Option Blk)} (h : p = q) (g : l = m) (e : a = b) : offS P dr c0 p l a ρ c r K = offS P dr c0 q m b ρ c r K := by rw [h, g, e]
end
attribute [congr] boxS_congr boxAS_congr offS_congr

theorem cells_agg {l : List V} : V.cells (.agg l) = some l := Eq.trans rfl rfl
theorem cells_sl {t : Tok} {n : Nat} {l : List V} : V.cells (.sl t n l) = some [.sl t n l] := Eq.trans rfl rfl
theorem cells_int {k : IntKind} {n : Int} : V.cells (.lit (.int k n)) = some [.lit (.int k n)] := Eq.trans rfl rfl
theorem cells_bool {b : Bool} : V.cells (.lit (.bool b)) = some [.lit (.bool b)] := Eq.trans rfl rfl
theorem cellsB_agg {l : List V} : V.cellsB (.agg l) = some l := Eq.trans rfl rfl
theorem cellsB_sl {t : Tok} {n : Nat} {l : List V} : V.cellsB (.sl t n l) = some [.sl t n l] := Eq.trans rfl rfl
theorem cellsB_int {k : IntKind} {n : Int} : V.cellsB (.lit (.int k n)) = some [.lit (.int k n)] := Eq.trans rfl rfl
theorem cellsB_bool {b : Bool} : V.cellsB (.lit (.bool b)) = some [.lit (.bool b)] := Eq.trans rfl rfl
theorem cellsB_buf {t off n sz : Nat} {cap : Option Nat} : V.cellsB (.buf t off n cap sz) = some [.buf t off n cap sz] := Eq.trans rfl rfl

def takeF : Nat → List V → Option (List V)
 | 0, _ => some []
 | n + 1, [] => none
 | n + 1, x :: l => if x.flat = true then (takeF n l).map (x :: ·) else none
theorem takeF_zero {l : List V} : takeF 0 l = some [] := by cases l <;> rfl
theorem takeF_succ {n : Nat} {x : V} {l : List V} : takeF (n + 1) (x :: l) = if x.flat = true then (takeF n l).map (x :: ·) else none := Eq.trans rfl rfl
theorem takeF_eq : ∀ (n : Nat) (l : List V), takeF n l = if n ≤ l.length ∧ (l.take n).all V.flat = true then some (l.take n) else none
 | 0, l => by simp [takeF_zero]
 | n + 1, [] => by simp [takeF]
 | n + 1, x :: l => by
  rw [takeF_succ, takeF_eq n l]
  by_cases h : x.flat = true
  ·by_cases g : n ≤ l.length ∧ (l.take n).all V.flat = true
   ·rw [if_pos h, if_pos g, if_pos ⟨by simp; exact g.1, by simp [h]; simpa using g.2⟩]; rfl
   ·rw [if_pos h, if_neg g, if_neg]; · rfl
    intro q
    exact g ⟨by simpa using q.1, by have := q.2; simp [h] at this; simpa using this⟩
  ·rw [if_neg h, if_neg]
   intro q
   have := q.2
   simp at this
   exact h this.1
theorem vp_succ {x : V} {l : List V} {i : Nat} {ag : Option Nat} : vpart (x :: l) (i + 1) ag = vpart l i ag := by
 cases ag with
 | none => simp [vpart]
 | some n =>
  simp only [vpart, List.length_cons, List.drop_succ_cons]
  by_cases h : i + n ≤ l.length ∧ ((l.drop i).take n).all V.flat = true
  ·rw [if_pos h, if_pos ⟨by omega, h.2⟩]
  ·rw [if_neg h, if_neg fun q => h ⟨by omega, q.2⟩]
theorem vp_none {x : V} {l : List V} : vpart (x :: l) 0 none = some x := Eq.trans rfl rfl
theorem vp_some {l : List V} {n : Nat} : vpart l 0 (some n) = (takeF n l).map .agg := by
 rw [takeF_eq]
 simp only [vpart, Nat.zero_add, List.drop_zero]
 split <;> rfl
theorem dl_some {l : List V} {b : Bool} {ag : Option Nat} {i : Nat} : dload (some ⟨l, b⟩) ag i = vpart l i ag := Eq.trans rfl rfl
theorem flat_sl {t : Tok} {n : Nat} {l : List V} : V.flat (.sl t n l) = true := Eq.trans rfl rfl
theorem flat_lit {v : Value} : V.flat (.lit v) = true := Eq.trans rfl rfl
theorem flat_agg {l : List V} : V.flat (.agg l) = true := Eq.trans rfl rfl
theorem ld_eptr {σ : Nat → Option Blk} {ag : Option Nat} {l : List V} {i : Nat} : vload σ ag (.eptr l i) = vpart l i ag := Eq.trans rfl rfl
theorem fd_agg {off : Nat} {ag : Option Nat} {l : List V} : vfld off ag (.agg l) = vpart l off ag := Eq.trans rfl rfl
theorem fa_ptr {off t o : Nat} : vfa off (.ptr t o) = some (.ptr t (o + off)) := Eq.trans rfl rfl
theorem fa_eptr {off i : Nat} {l : List V} : vfa off (.eptr l i) = some (.eptr l (i + off)) := Eq.trans rfl rfl
theorem ds_agg {l cs : List V} {σ : Nat → Option Blk} {t n off : Nat} : dstore (some ⟨l, true⟩) σ t n off (.agg cs) = if cs.length = n ∧ off + n ≤ l.length then some (supd σ t (some ⟨putCells l off cs, true⟩)) else none := by
 simp [dstore, V.cellsB, V.cells]
theorem ds_one {l : List V} {σ : Nat → Option Blk} {t off : Nat} {v : V} (h : v.cellsB = some [v]) : dstore (some ⟨l, true⟩) σ t 1 off v = if off < l.length then some (supd σ t (some ⟨l.set off v, true⟩)) else none := by
 simp only [dstore, h]
 by_cases g : off < l.length
 ·rw [if_pos g, if_pos ⟨trivial, rfl, by omega⟩]; rfl
 ·rw [if_neg g, if_neg (by omega)]
theorem ds_sl {l : List V} {σ : Nat → Option Blk} {t off n : Nat} {tk : Tok} {m : List V} : dstore (some ⟨l, true⟩) σ t 1 off (.sl tk n m) = if off < l.length then some (supd σ t (some ⟨l.set off (.sl tk n m), true⟩)) else none := ds_one rfl
theorem ds_int {l : List V} {σ : Nat → Option Blk} {t off : Nat} {k : IntKind} {n : Int} : dstore (some ⟨l, true⟩) σ t 1 off (.lit (.int k n)) = if off < l.length then some (supd σ t (some ⟨l.set off (.lit (.int k n)), true⟩)) else none := ds_one rfl
theorem ds_bool {l : List V} {σ : Nat → Option Blk} {t off : Nat} {b : Bool} : dstore (some ⟨l, true⟩) σ t 1 off (.lit (.bool b)) = if off < l.length then some (supd σ t (some ⟨l.set off (.lit (.bool b)), true⟩)) else none := ds_one rfl
theorem ds_buf {l : List V} {σ : Nat → Option Blk} {t off t' o' n' sz : Nat} {cap : Option Nat} : dstore (some ⟨l, true⟩) σ t 1 off (.buf t' o' n' cap sz) = if off < l.length then some (supd σ t (some ⟨l.set off (.buf t' o' n' cap sz), true⟩)) else none := ds_one rfl
theorem pc_nil {l : List V} {i : Nat} : putCells l i [] = l := Eq.trans rfl rfl
theorem pc_cons {l xs : List V} {x : V} {i : Nat} : putCells l i (x :: xs) = putCells (l.set i x) (i + 1) xs := Eq.trans rfl rfl
theorem vl_nil : vlits [] = [] := Eq.trans rfl rfl
theorem vl_cons {v : Value} {z : List Value} : vlits (v :: z) = ofCell v :: vlits z := Eq.trans rfl rfl
theorem oc_bool {b : Bool} : ofCell (.bool b) = .lit (.bool b) := Eq.trans rfl rfl
theorem oc_int {k : IntKind} {n : Int} : ofCell (.int k n) = .lit (.int k n) := Eq.trans rfl rfl
theorem oc_nil : ofCell (.slice none 0 0) = .sl .nil 1 [] := Eq.trans rfl rfl
theorem po_nil {e : X → V} : partsOf e [] = [] := Eq.trans rfl rfl
theorem po_cons {e : X → V} {a n : Nat} {x : X} {ps : List (Nat × Nat × X)} : partsOf e ((a, n, x) :: ps) = (a, n, e x) :: partsOf e ps := Eq.trans rfl rfl
theorem vb_eq {z : List Value} {ps : List (Nat × Nat × V)} : vbuild z ps = (vfill (vlits z) ps).map .agg := Eq.trans rfl rfl
theorem vf_nil {cs : List V} : vfill cs [] = some cs := Eq.trans rfl rfl
theorem vf_agg {cs l : List V} {off n : Nat} {r : List (Nat × Nat × V)} : vfill cs ((off, n, .agg l) :: r) = if l.length = n ∧ off + n ≤ cs.length then vfill (putCells cs off l) r else none := Eq.trans rfl rfl
theorem vf_one {cs : List V} {v : V} (h : v.cells = some [v]) {off : Nat} {r : List (Nat × Nat × V)} : vfill cs ((off, 1, v) :: r) = if off < cs.length then vfill (cs.set off v) r else none := by
 simp only [vfill, h]
 by_cases g : off < cs.length
 ·rw [if_pos g, if_pos ⟨rfl, by omega⟩]; rfl
 ·rw [if_neg g, if_neg (by omega)]
theorem vf_sl {cs : List V} {t : Tok} {n : Nat} {l : List V} {off : Nat} {r : List (Nat × Nat × V)} : vfill cs ((off, 1, .sl t n l) :: r) = if off < cs.length then vfill (cs.set off (.sl t n l)) r else none := vf_one rfl
theorem vf_int {cs : List V} {k : IntKind} {n : Int} {off : Nat} {r : List (Nat × Nat × V)} : vfill cs ((off, 1, .lit (.int k n)) :: r) = if off < cs.length then vfill (cs.set off (.lit (.int k n))) r else none := vf_one rfl
theorem vf_bool {cs : List V} {b : Bool} {off : Nat} {r : List (Nat × Nat × V)} : vfill cs ((off, 1, .lit (.bool b)) :: r) = if off < cs.length then vfill (cs.set off (.lit (.bool b))) r else none := vf_one rfl
def oneQ (v : V) : Option V := if v.one = true then some v else none
theorem oneQ_agg {l : List V} : oneQ (.agg l) = some (.agg l) := Eq.trans rfl rfl
theorem oneQ_sl {t : Tok} {n : Nat} {l : List V} : oneQ (.sl t n l) = some (.sl t n l) := Eq.trans rfl rfl
theorem oneQ_lit {v : Value} : oneQ (.lit v) = some (.lit v) := Eq.trans rfl rfl
theorem oneQ_tup {l : List V} : oneQ (.tup l) = some (.tup l) := Eq.trans rfl rfl
def getS (a : Option V) (K : V → Prop) : Prop := ∃ r, a = some r ∧ K r
theorem getS_some {v : V} {K : V → Prop} : getS (some v) K = K v := by simp [getS]
theorem getS_congr {a b : Option V} {K : V → Prop} (h : a = b) : getS a K = getS b K := by rw [h]
attribute [congr] getS_congr
theorem vr_tmp {ρ : Nat → V} {σ : Nat → Option Blk} {c t : Nat} : vres ⟨ρ, σ, c⟩ (.tmp t) = oneQ (ρ t) := Eq.trans rfl rfl
theorem vr_cell {ρ : Nat → V} {σ : Nat → Option Blk} {c t : Nat} {ag : Option Nat} : vres ⟨ρ, σ, c⟩ (.cell t ag) = (vload σ ag (ρ t)).bind oneQ := by
 unfold vres
 simp only
 cases vload σ ag (ρ t) <;> rfl
theorem vr_nil {S : VS} : vresL S [] = some [] := Eq.trans rfl rfl
theorem vr_cons {S : VS} {r : VRes} {l : List VRes} : vresL S (r :: l) = (vres S r).bind fun v => (vresL S l).map (v :: ·) := by
 simp only [vresL]
 cases vres S r <;> cases vresL S l <;> rfl
def resV : Option (List V) → Option V | some [v] => some v | some vs => some (.tup vs) | none => none
theorem resV_1 {v : V} : resV (some [v]) = some v := Eq.trans rfl rfl
theorem resV_2 {a b : V} {l : List V} : resV (some (a :: b :: l)) = some (.tup (a :: b :: l)) := Eq.trans rfl rfl
theorem rt_any {rs : List VRes} {Q : V → Nat → Prop} {ρ : Nat → V} {σ : Nat → Option Blk} {c : Nat} : retQ rs Q .ret ⟨ρ, σ, c⟩ = getS (resV (vresL ⟨ρ, σ, c⟩ rs)) fun r => Q r c := by
 rw [retQ_ret]
 unfold getS resV vresult
 rfl
def bslS (P : Program) (dr : Bool) (c0 : Nat) (a : Option (List V)) (sz i : Nat) (ρ : Nat → V) (σ : Nat → Option Blk) (c : Nat) (r : List VO) (K : VS → Prop) : Prop := ∃ l, a = some l ∧ wps P dr c0 r ⟨upd ρ i (.sl (.id c) sz l), σ, c + 1⟩ K
def bslS0 (P : Program) (dr : Bool) (c0 : Nat) (a : Option (List V)) (sz i : Nat) (ρ : Nat → V) (σ : Nat → Option Blk) (c : Nat) (r : List VO) (K : VS → Prop) : Prop := ∃ l, a = some l ∧ wps P dr c0 r ⟨upd ρ i (.sl .unk sz l), σ, c⟩ K
section
variable {P : Program} {dr : Bool} {c0 : Nat} {S : VS} {r : List VO} {K : VS → Prop} {d : Option Nat} {i c : Nat} {ρ : Nat → V} {σ : Nat → Option Blk}
theorem q_bsl {sz len : Nat} {z : List Value} {ps : List (Nat × Nat × X)} : wps P dr c0 (⟨some i, .bsl true sz len z ps, none⟩ :: r) ⟨ρ, σ, c⟩ K = bslS P dr c0 (vfill (rept z len) (partsOf (X.ev ρ) ps)) sz i ρ σ c r K := by
 refine propext ⟨fun h => ?_, fun ⟨l, h1, h2⟩ => s_eff rfl (by intros; exact fun h => by cases h) (by intros; exact fun h => by cases h) ⟨_, _, _, none, .bsl h1, h2⟩⟩
 obtain ⟨v, σ', c', kt, h, hk⟩ := opS_eff h
 cases h with
 | pure h => simp [vpure] at h
 | bsl h => exact ⟨_, h, hk⟩
theorem q_bsl0 {sz len : Nat} {z : List Value} {ps : List (Nat × Nat × X)} : wps P dr c0 (⟨some i, .bsl false sz len z ps, none⟩ :: r) ⟨ρ, σ, c⟩ K = bslS0 P dr c0 (vfill (rept z len) (partsOf (X.ev ρ) ps)) sz i ρ σ c r K := by
 refine propext ⟨fun h => ?_, fun ⟨l, h1, h2⟩ => s_eff rfl (by intros; exact fun h => by cases h) (by intros; exact fun h => by cases h) ⟨_, _, _, none, .bsl0 h1, h2⟩⟩
 obtain ⟨v, σ', c', kt, h, hk⟩ := opS_eff h
 cases h with
 | pure h => simp [vpure] at h
 | bsl0 h => exact ⟨_, h, hk⟩
theorem bslS_some {l : List V} {sz : Nat} : bslS P dr c0 (some l) sz i ρ σ c r K = wps P dr c0 r ⟨upd ρ i (.sl (.id c) sz l), σ, c + 1⟩ K := by simp [bslS]
theorem bslS0_some {l : List V} {sz : Nat} : bslS0 P dr c0 (some l) sz i ρ σ c r K = wps P dr c0 r ⟨upd ρ i (.sl .unk sz l), σ, c⟩ K := by simp [bslS0]
theorem bslS_congr {a b : Option (List V)} {sz : Nat} (h : a = b) : bslS P dr c0 a sz i ρ σ c r K = bslS P dr c0 b sz i ρ σ c r K := by rw [h]
theorem bslS0_congr {a b : Option (List V)} {sz : Nat} (h : a = b) : bslS0 P dr c0 a sz i ρ σ c r K = bslS0 P dr c0 b sz i ρ σ c r K := by rw [h]
end
attribute [congr] bslS_congr bslS0_congr
theorem rp_zero {z : List Value} : rept z 0 = [] := Eq.trans rfl rfl
theorem rp_succ {z : List Value} {n : Nat} : rept z (n + 1) = vlits z ++ rept z n := Eq.trans rfl rfl
theorem ix_sl {sz : Nat} {t : Tok} {l : List V} {n : Int} : vixa sz (.sl t sz l) (iv n) = if 0 ≤ n ∧ n.toNat < l.length / sz then some (.eptr l (n.toNat * sz)) else none := by simp [vixa]
theorem ln_sl {sz : Nat} {t : Tok} {l : List V} : vlen (.sl t sz l) = some (iv ((l.length / sz : Nat) : Int)) := Eq.trans rfl rfl
def nextQ (P : Program) (c0 : Nat) (b : VC) (Q : VEx → VS → Prop) : VEx → VS → Prop
 | .normal, S => VWP P c0 (.loop b) Q S
 | e, S => Q e S
theorem nextQ_normal {P : Program} {c0 : Nat} {b : VC} {Q : VEx → VS → Prop} {S : VS} : nextQ P c0 b Q .normal S = VWP P c0 (.loop b) Q S := Eq.trans rfl rfl
theorem nextQ_exit {P : Program} {c0 : Nat} {b : VC} {Q : VEx → VS → Prop} {S : VS} {j : Nat} : nextQ P c0 b Q (.exit j) S = Q (.exit j) S := Eq.trans rfl rfl
theorem nextQ_ret {P : Program} {c0 : Nat} {b : VC} {Q : VEx → VS → Prop} {S : VS} : nextQ P c0 b Q .ret S = Q .ret S := Eq.trans rfl rfl
attribute [irreducible] nextQ
theorem b_neS {a : Bool} : sbin .neq true (bv a) (bv a) = some (bv false) := by cases a <;> rfl
theorem b_ne1 : sbin .neq true (bv false) (bv true) = some (bv true) := Eq.trans rfl rfl
theorem b_ne2 : sbin .neq true (bv true) (bv false) = some (bv true) := Eq.trans rfl rfl
theorem b_eqS {a : Bool} : sbin .eql true (bv a) (bv a) = some (bv true) := by cases a <;> rfl
theorem b_eq1 : sbin .eql true (bv false) (bv true) = some (bv false) := Eq.trans rfl rfl
theorem b_eq2 : sbin .eql true (bv true) (bv false) = some (bv false) := Eq.trans rfl rfl
theorem k_ne {α : Sort _} {a b : Nat} {x y : α} (h : a ≠ b) : (if a = b then x else y) = y := if_neg h
theorem vst : type_of% (And.intro @b_neS (And.intro @b_ne1 (And.intro @b_ne2 (And.intro @b_eqS (And.intro @b_eq1 (And.intro @b_eq2 (And.intro @q_bsl (And.intro @q_bsl0 (And.intro @bslS_some (And.intro @bslS0_some (And.intro @rp_zero (And.intro @rp_succ (And.intro @ix_sl (And.intro @ln_sl (And.intro @nextQ_normal (And.intro @nextQ_exit (And.intro @nextQ_ret (And.intro @q_alloc (And.intro @q_box (And.intro @q_boxA (And.intro @q_storeA (And.intro @offS_eq (And.intro @boxS_some (And.intro @boxAS_some (And.intro @offL_nil (And.intro @offL_cons (And.intro @offp_ptr (And.intro @cells_agg (And.intro @cells_sl (And.intro @cells_int (And.intro @cells_bool (And.intro @cellsB_agg (And.intro @cellsB_sl (And.intro @cellsB_int (And.intro @cellsB_bool (And.intro @cellsB_buf (And.intro @takeF_zero (And.intro @takeF_succ (And.intro @vp_succ (And.intro @vp_none (And.intro @vp_some (And.intro @dl_some (And.intro @flat_sl (And.intro @flat_lit (And.intro @flat_agg (And.intro @ld_eptr (And.intro @fd_agg (And.intro @fa_ptr (And.intro @fa_eptr (And.intro @ds_agg (And.intro @ds_sl (And.intro @ds_int (And.intro @ds_bool (And.intro @ds_buf (And.intro @pc_nil (And.intro @pc_cons (And.intro @vl_nil (And.intro @vl_cons (And.intro @oc_bool (And.intro @oc_int (And.intro @oc_nil (And.intro @po_nil (And.intro @po_cons (And.intro @vb_eq (And.intro @vf_nil (And.intro @vf_agg (And.intro @vf_sl (And.intro @vf_int (And.intro @vf_bool (And.intro @oneQ_agg (And.intro @oneQ_sl (And.intro @oneQ_lit (And.intro @oneQ_tup (And.intro @getS_some (And.intro @vr_tmp (And.intro @vr_cell (And.intro @vr_nil (And.intro @vr_cons (And.intro @resV_1 (And.intro @resV_2 (And.intro @rt_any @s_build))))))))))))))))))))))))))))))))))))))))))))))))))))))))))))))))))))))))))))))))) :=
 (And.intro @b_neS (And.intro @b_ne1 (And.intro @b_ne2 (And.intro @b_eqS (And.intro @b_eq1 (And.intro @b_eq2 (And.intro @q_bsl (And.intro @q_bsl0 (And.intro @bslS_some (And.intro @bslS0_some (And.intro @rp_zero (And.intro @rp_succ (And.intro @ix_sl (And.intro @ln_sl (And.intro @nextQ_normal (And.intro @nextQ_exit (And.intro @nextQ_ret (And.intro @q_alloc (And.intro @q_box (And.intro @q_boxA (And.intro @q_storeA (And.intro @offS_eq (And.intro @boxS_some (And.intro @boxAS_some (And.intro @offL_nil (And.intro @offL_cons (And.intro @offp_ptr (And.intro @cells_agg (And.intro @cells_sl (And.intro @cells_int (And.intro @cells_bool (And.intro @cellsB_agg (And.intro @cellsB_sl (And.intro @cellsB_int (And.intro @cellsB_bool (And.intro @cellsB_buf (And.intro @takeF_zero (And.intro @takeF_succ (And.intro @vp_succ (And.intro @vp_none (And.intro @vp_some (And.intro @dl_some (And.intro @flat_sl (And.intro @flat_lit (And.intro @flat_agg (And.intro @ld_eptr (And.intro @fd_agg (And.intro @fa_ptr (And.intro @fa_eptr (And.intro @ds_agg (And.intro @ds_sl (And.intro @ds_int (And.intro @ds_bool (And.intro @ds_buf (And.intro @pc_nil (And.intro @pc_cons (And.intro @vl_nil (And.intro @vl_cons (And.intro @oc_bool (And.intro @oc_int (And.intro @oc_nil (And.intro @po_nil (And.intro @po_cons (And.intro @vb_eq (And.intro @vf_nil (And.intro @vf_agg (And.intro @vf_sl (And.intro @vf_int (And.intro @vf_bool (And.intro @oneQ_agg (And.intro @oneQ_sl (And.intro @oneQ_lit (And.intro @oneQ_tup (And.intro @getS_some (And.intro @vr_tmp (And.intro @vr_cell (And.intro @vr_nil (And.intro @vr_cons (And.intro @resV_1 (And.intro @resV_2 (And.intro @rt_any @s_build)))))))))))))))))))))))))))))))))))))))))))))))))))))))))))))))))))))))))))))))))
theorem zS {p q : Prop} (h : q) (e : Hid q → p := by intro h0; simp (maxSteps := 4000000) (disch := omega) only [vm, ite_true, ite_false, eq_self, reduceIte, Nat.reduceEqDiff, Option.map, vst, List.length_cons, List.length_nil, List.set_cons_zero, List.set_cons_succ, List.map_cons, List.map_nil, Option.map_some, Option.bind_some, Nat.reduceAdd, Nat.reduceLT, Nat.reduceLeDiff, Nat.add_zero, and_self, k_ne, Nat.add_left_cancel_iff, ne_eq, Int.reduceEq, Int.reduceLT, Int.reduceLE, List.cons_append, List.nil_append, Nat.reduceDiv, Nat.reduceMul, Int.reduceToNat, Int.reduceAdd, Int.cast_ofNat_Int]; exact h0.out) : p := e ⟨h⟩
theorem zSF {f p q : Prop} (hf : f) (h : q) (e : f → Hid q → p := by intro f0 h0; simp (maxSteps := 4000000) (disch := omega) only [vm, ite_true, ite_false, eq_self, reduceIte, Nat.reduceEqDiff, Option.map, vst, List.length_cons, List.length_nil, List.set_cons_zero, List.set_cons_succ, List.map_cons, List.map_nil, Option.map_some, Option.bind_some, Nat.reduceAdd, Nat.reduceLT, Nat.reduceLeDiff, Nat.add_zero, and_self, k_ne, Nat.add_left_cancel_iff, ne_eq, Int.reduceEq, Int.reduceLT, Int.reduceLE, List.cons_append, List.nil_append, Nat.reduceDiv, Nat.reduceMul, Int.reduceToNat, Int.reduceAdd, Int.cast_ofNat_Int, f0]; exact h0.out) : p := e hf ⟨h⟩
theorem zR {p q : Prop} (h : q) (e : Hid q → p := by intro h0; (repeat (first | refine v_reg ?_ | refine v_last ?_ | refine vwp_seq ?_ | refine vwp_block ?_ | refine vwp_skip ?_ | refine vwp_exit ?_ | refine vwp_ret ?_ | refine v_cond ?_ | simp (maxSteps := 4000000) (disch := omega) only [vm, ite_true, ite_false, eq_self, reduceIte, Nat.reduceEqDiff, Option.map, vst, List.length_cons, List.length_nil, List.set_cons_zero, List.set_cons_succ, List.map_cons, List.map_nil, Option.map_some, Option.bind_some, Nat.reduceAdd, Nat.reduceLT, Nat.reduceLeDiff, Nat.add_zero, and_self, k_ne, Nat.add_left_cancel_iff, ne_eq, Int.reduceEq, Int.reduceLT, Int.reduceLE, List.cons_append, List.nil_append, Nat.reduceDiv, Nat.reduceMul, Int.reduceToNat, Int.reduceAdd, Int.cast_ofNat_Int] | refine And.intro (by omega) ?_)); exact h0.out) : p := e ⟨h⟩
theorem zRF {f p q : Prop} (hf : f) (h : q) (e : f → Hid q → p := by intro f0 h0; (repeat (first | refine v_reg ?_ | refine v_last ?_ | refine vwp_seq ?_ | refine vwp_block ?_ | refine vwp_skip ?_ | refine vwp_exit ?_ | refine vwp_ret ?_ | refine v_cond ?_ | simp (maxSteps := 4000000) (disch := omega) only [vm, ite_true, ite_false, eq_self, reduceIte, Nat.reduceEqDiff, Option.map, vst, List.length_cons, List.length_nil, List.set_cons_zero, List.set_cons_succ, List.map_cons, List.map_nil, Option.map_some, Option.bind_some, Nat.reduceAdd, Nat.reduceLT, Nat.reduceLeDiff, Nat.add_zero, and_self, k_ne, Nat.add_left_cancel_iff, ne_eq, Int.reduceEq, Int.reduceLT, Int.reduceLE, List.cons_append, List.nil_append, Nat.reduceDiv, Nat.reduceMul, Int.reduceToNat, Int.reduceAdd, Int.cast_ofNat_Int, f0] | refine And.intro (by omega) ?_)); exact h0.out) : p := e hf ⟨h⟩
theorem wS {p : Prop} (e : p := by simp (maxSteps := 4000000) (disch := omega) only [vm, ite_true, ite_false, eq_self, reduceIte, Nat.reduceEqDiff, Option.map, vst, List.length_cons, List.length_nil, List.set_cons_zero, List.set_cons_succ, List.map_cons, List.map_nil, Option.map_some, Option.bind_some, Nat.reduceAdd, Nat.reduceLT, Nat.reduceLeDiff, Nat.add_zero, and_self, k_ne, Nat.add_left_cancel_iff, ne_eq, Int.reduceEq, Int.reduceLT, Int.reduceLE, List.cons_append, List.nil_append, Nat.reduceDiv, Nat.reduceMul, Int.reduceToNat, Int.reduceAdd, Int.cast_ofNat_Int]) : p := e
theorem wSr {p : Prop} (e : p := by simp (maxSteps := 4000000) (disch := omega) only [vm, ite_true, ite_false, eq_self, reduceIte, Nat.reduceEqDiff, Option.map, vst, List.length_cons, List.length_nil, List.set_cons_zero, List.set_cons_succ, List.map_cons, List.map_nil, Option.map_some, Option.bind_some, Nat.reduceAdd, Nat.reduceLT, Nat.reduceLeDiff, Nat.add_zero, and_self, k_ne, Nat.add_left_cancel_iff, ne_eq, Int.reduceEq, Int.reduceLT, Int.reduceLE, List.cons_append, List.nil_append, Nat.reduceDiv, Nat.reduceMul, Int.reduceToNat, Int.reduceAdd, Int.cast_ofNat_Int]; rfl) : p := e
theorem wSF {f p : Prop} (hf : f) (e : f → p := by intro f0; simp (maxSteps := 4000000) (disch := omega) only [vm, ite_true, ite_false, eq_self, reduceIte, Nat.reduceEqDiff, Option.map, vst, List.length_cons, List.length_nil, List.set_cons_zero, List.set_cons_succ, List.map_cons, List.map_nil, Option.map_some, Option.bind_some, Nat.reduceAdd, Nat.reduceLT, Nat.reduceLeDiff, Nat.add_zero, and_self, k_ne, Nat.add_left_cancel_iff, ne_eq, Int.reduceEq, Int.reduceLT, Int.reduceLE, List.cons_append, List.nil_append, Nat.reduceDiv, Nat.reduceMul, Int.reduceToNat, Int.reduceAdd, Int.cast_ofNat_Int, f0]) : p := e hf
theorem wSrF {f p : Prop} (hf : f) (e : f → p := by intro f0; simp (maxSteps := 4000000) (disch := omega) only [vm, ite_true, ite_false, eq_self, reduceIte, Nat.reduceEqDiff, Option.map, vst, List.length_cons, List.length_nil, List.set_cons_zero, List.set_cons_succ, List.map_cons, List.map_nil, Option.map_some, Option.bind_some, Nat.reduceAdd, Nat.reduceLT, Nat.reduceLeDiff, Nat.add_zero, and_self, k_ne, Nat.add_left_cancel_iff, ne_eq, Int.reduceEq, Int.reduceLT, Int.reduceLE, List.cons_append, List.nil_append, Nat.reduceDiv, Nat.reduceMul, Int.reduceToNat, Int.reduceAdd, Int.cast_ofNat_Int, f0]; rfl) : p := e hf
end Go.VM
namespace Go.Proofs.YtcafgpconlkecaaGreatDoor
open Go.VM

theorem u_neg {x : Nat} : vun .neg (nv x) = some (nv ((18446744073709551616 - x % 18446744073709551616) % 18446744073709551616)) := by
 simp only [vun]
 have : IntKind.u64.wrap (0 - (x : Int)) = (((18446744073709551616 - x % 18446744073709551616) % 18446744073709551616 : Nat) : Int) := by
  simp only [IntKind.wrap, IntKind.signed, IntKind.bits]
  simp
  omega
 rw [this]
theorem ax_g {n sz g off x : Nat} : vaxa n sz (.gptr g off) (nv x) = if x < n then some (.gptr g (off + x * sz)) else none := by
 simp [vaxa]
theorem ld_tab {σ : Nat → Option Blk} {i k : Nat} (h : dbTab[i]? = some k) : vload σ none (.gptr 0 i) = some (.lit (.int .u8 (k : Int))) := by
 have e : ∀ (l : List Nat) (j : Nat) (k : Nat), l[j]? = some k → ((l.map fun z : Nat => Value.int .u8 (z : Int)).map ofCell)[j]? = some (.lit (.int .u8 (k : Int))) := by
  intro l j k h
  rw [List.getElem?_map, List.getElem?_map, h]
  rfl
 have e2 : GT 0 = some (dbTab.map fun z : Nat => Value.int .u8 (z : Int)) := rfl
 simp only [vload, e2, vpart]
 exact e _ _ _ h

theorem tz64_spec (x c : Nat) (h0 : 0 < x) (hx : x < 18446744073709551616) : VSpec Tryz.prog F.bits_TrailingZeros64 c [nv x] (fun r _ => r = iv (tz x)) := by
 refine sG hm G.bits_TrailingZeros64 ?_
 unfold C.bits_TrailingZeros64 R.bits_TrailingZeros64 cD
 obtain ⟨h1, h2⟩ := db_tz h0 hx
 have h3 : (18446744073709551616 - x % 18446744073709551616) % 18446744073709551616 = 18446744073709551616 - x := by omega
 have h4 : x &&& (18446744073709551616 - x) = 2 ^ tz x := low_bit (k := 64) h0 hx
 have h5 : x % 18446744073709551616 &&& (18446744073709551616 - x) % 18446744073709551616 = x &&& (18446744073709551616 - x) := by rw [Nat.mod_eq_of_lt hx, Nat.mod_eq_of_lt (by omega)]
 have hne : ¬ x = 0 := by omega
 have hp : 2 ^ min 58 64 = 288230376151711744 := by decide
 refine xRF hne ?_
 simp only [u_neg, u_and, h3, h5, vm, ite_true, ite_false, eq_self, reduceIte, Nat.reduceEqDiff, Option.map, hp, ax_g, h1]
 simp only [Nat.mul_one, ld_tab h2, vm, ite_true, ite_false, eq_self, reduceIte, Nat.reduceEqDiff, Option.map]
 have ht := tz_lt (k := 64) (by omega) hx
 rw [c_8i (by omega)]
 refine xR ?_
 exact Nat.le_refl _

theorem tz_limb {x R : Nat} (i : Nat) (h0 : 0 < x) (hx : x < 18446744073709551616) : tz (2 ^ (64 * i) * (x + 18446744073709551616 * R)) = 64 * i + tz x := by
 rw [tz_pow (by omega)]
 have := tz_low (k := 64) (r := R) (by omega : x ≠ 0) hx
 rw [show (2 : Nat) ^ 64 = 18446744073709551616 by decide] at this
 rw [this]

theorem tail_spec (t : Tok) (l : List Nat) (c : Nat) (hl : Lim 18446744073709551616 l) (hn : l.length ≤ 4398046511104) : VSpec Tryz.prog F.nat_Tail c [nats t l] (fun r _ => r = iv (tz (val 18446744073709551616 l) : Nat)) := by
 refine sG hm G.nat_Tail ?_
 unfold C.nat_Tail R.nat_Tail cD
 refine xR ?_
 refine v_loopR (fun S => S.σ = noBlk ∧ c ≤ S.c ∧ val 18446744073709551616 l = 0) ?_ ?_
 ·refine vwp_loop (fun k S => ∃ i, k = l.length - i ∧ i ≤ l.length ∧ S.ρ 5 = nats t l ∧ S.ρ 6 = iv l.length ∧ S.ρ 7 = iv i ∧ val 18446744073709551616 l = 2 ^ (64 * i) * val 18446744073709551616 (l.drop i) ∧ S.σ = noBlk ∧ c ≤ S.c) l.length ?_ ?_
  ·refine ⟨0, by omega, by omega, ?_⟩
   refine xS ?_
   (repeat' apply And.intro) <;> first | rfl | omega | assumption | simp
  rintro k ⟨ρ, σ, c3⟩ ⟨i, hk, hi, h5, h6, h7, hv, hσ, hc3⟩
  dsimp only at h5 h6 h7 hσ hc3
  subst hσ
  by_cases g : (i : Int) < l.length
  ·have hi' : i < l.length := by omega
   have hd := val_drop (b := 18446744073709551616) hi'
   have hx := hl.getD (i := i) (by decide)
   by_cases g2 : l.getD i 0 = 0
   ·refine xRF (jn h5 (jn h6 (jn h7 (jn g g2)))) ?_
    refine ⟨l.length - (i + 1), by omega, i + 1, ?_⟩
    have hv2 : val 18446744073709551616 l = 2 ^ (64 * (i + 1)) * val 18446744073709551616 (l.drop (i + 1)) := by
     rw [hv, hd, g2, Nat.zero_add, Nat.mul_add, Nat.pow_add, Nat.mul_assoc]
    exact yA
   ·refine xRF (jn h5 (jn h6 (jn h7 (jn g g2)))) ?_
    refine s_call (tz64_spec _ c3 (by omega) hx) yM ?_
    rintro v c4 hc4 rfl
    have ht := tz_lt (k := 64) g2 hx
    refine xR ?_
    have hv2 : tz (val 18446744073709551616 l) = 64 * i + tz (l.getD i 0) := by rw [hv, hd]; exact tz_limb i (by omega) hx
    rw [hv2]
    (repeat' apply And.intro) <;> first | rfl | omega | assumption | (push_cast; rfl)
  ·have : i = l.length := by omega
   subst this
   rw [List.drop_length] at hv
   refine xRF (jn h5 (jn h6 (jn h7 g))) ?_
   (repeat' apply And.intro) <;> first | rfl | omega | assumption | (rw [hv]; rfl)
 rintro ⟨ρ3, σ, c5⟩ ⟨hσ, hc5, hv⟩
 dsimp only at hσ hc5
 subst hσ
 refine xR ?_
 rw [hv, tz_zero]
 exact yA

theorem val_right (x : List Nat) (n : Nat) (hx : Lim 18446744073709551616 x) : val 18446744073709551616 x / 2 ^ n = val 18446744073709551616 (x.drop (n / 64)) / 2 ^ (n % 64) := by
 have e : 2 ^ n = 18446744073709551616 ^ (n / 64) * 2 ^ (n % 64) := by rw [pow64, ← Nat.pow_add, Nat.div_add_mod]
 rw [e, ← Nat.div_div_eq_div_mul]
 congr 1
 rcases Nat.lt_or_ge x.length (n / 64) with g | g
 ·rw [List.drop_eq_nil_of_le (Nat.le_of_lt g)]
  exact Nat.div_eq_of_lt (Nat.lt_of_lt_of_le (val_lt hx) (Nat.pow_le_pow_right (by decide) (Nat.le_of_lt g)))
 ·have h := val_take_drop 18446744073709551616 (n / 64) x g
  have h2 : val 18446744073709551616 (x.take (n / 64)) < 18446744073709551616 ^ (n / 64) := by
   have := val_lt (hx.take (k := n / 64))
   rwa [List.length_take, Nat.min_eq_left g] at this
  rw [h, Nat.add_mul_div_left _ _ (Nat.pow_pos (by decide)), Nat.div_eq_of_lt h2, Nat.zero_add]

theorem right_spec (t : Tok) (a : List Nat) (n c : Nat) (ha : Lim 18446744073709551616 a) (hna : a.length ≤ 1099511627776) (hn : n ≤ 1099511627776) : VSpec Tryz.prog F.nat_Right c [nats t a, iv (n : Int)] (fun r c' => Told c c' (val 18446744073709551616 a / 2 ^ n) r) := by
 refine sG hm G.nat_Right ?_
 unfold C.nat_Right R.nat_Right cD
 have hla := digs_len_le two64 ha
 have g1 : ¬ (n : Int) < 0 := by omega
 have g2 : ¬ (1099511627776 : Int) < n := by omega
 have d1 : (n : Int) / 64 = ((n / 64 : Nat) : Int) := by omega
 have d2 : (n : Int) % 64 = ((n % 64 : Nat) : Int) := by omega
 have d3 : ((n % 64 : Nat) : Int).toNat = n % 64 := by omega
 refine xRF (jn g1 g2) ?_
 refine s_call (trim_spec t a c ha (by omega)) yM ?_
 rintro v c2 hc2 rfl
 have hx := lim_digs two64 (val 18446744073709551616 a)
 have va := val_digs two64 (val 18446744073709551616 a)
 generalize digs 18446744073709551616 (val 18446744073709551616 a) = x at *
 have hvr := val_right x n hx
 rw [va] at hvr
 obtain ⟨q, hq⟩ : ∃ q, q = n / 64 := ⟨_, rfl⟩
 obtain ⟨s, hs⟩ : ∃ s, s = n % 64 := ⟨_, rfl⟩
 rw [← hq, ← hs] at hvr
 rw [← hq] at d1
 rw [← hs] at d2 d3
 by_cases g3 : (x.length : Int) ≤ (q : Int)
 ·have hx0 : x.drop q = [] := List.drop_eq_nil_of_le (by omega)
  refine xRF (jn g1 (jn g2 (jn d1 (jn d2 (jn d3 g3))))) ?_
  rw [hvr, hx0]
  refine .inl ⟨?_, .nil, ?_, .inl rfl⟩
  ·rw [val_nil, Nat.zero_div]; decide
  ·rw [val_nil, Nat.zero_div]; rfl
 have hlX : (x.drop q).length = x.length - q := List.length_drop
 have hg : ∀ j, x.getD (q + j) 0 = (x.drop q).getD j 0 := fun j => by
  rw [List.getD_eq_getElem?_getD, List.getD_eq_getElem?_getD, List.getElem?_drop]
 have hX := hx.drop (k := q)
 obtain ⟨m, hm⟩ : ∃ m, m = x.length - q := ⟨_, rfl⟩
 have hm2 : (x.length : Int) - (q : Int) = (m : Int) := by omega
 refine xRF (jn g1 (jn g2 (jn d1 (jn d2 (jn d3 (jn g3 hm2)))))) ?_
 refine s_mk (n := m) (m := m) yS yS (Nat.le_refl _) (by omega) ?_
 have hs64 : s < 64 := by omega
 have hp : (18446744073709551616 : Nat) = 2 ^ s * 2 ^ (64 - s) := by rw [← Nat.pow_add, show s + (64 - s) = 64 by omega]
 refine xR ?_
 refine v_loop (fun S => ∃ w, w.length = m ∧ Lim 18446744073709551616 w ∧ val 18446744073709551616 w = val 18446744073709551616 (x.drop q) / 2 ^ s ∧ S.ρ 8 = .buf c2 0 m (some m) 1 ∧ S.σ = supd noBlk c2 (nblk w) ∧ c2 + 1 ≤ S.c) ?_ ?_
 ·refine vwp_loop (fun k S => ∃ i w, k = m - i ∧ i ≤ m ∧ w.length = i ∧ Lim 18446744073709551616 w ∧ val 18446744073709551616 w * 2 ^ s + (x.drop q).getD 0 0 % 2 ^ s = val 18446744073709551616 ((x.drop q).take i) + 18446744073709551616 ^ i * ((x.drop q).getD i 0 % 2 ^ s) ∧ S.ρ 0 = nats t x ∧ S.ρ 6 = iv q ∧ S.ρ 7 = nv s ∧ S.ρ 33 = iv m ∧ S.ρ 34 = iv i ∧ S.ρ 8 = .buf c2 0 m (some m) 1 ∧ S.σ = supd noBlk c2 (nblk (w ++ List.replicate (m - i) 0)) ∧ c2 + 1 ≤ S.c) m ?_ ?_
  ·refine ⟨0, [], by omega, by omega, ?_⟩
   refine xS ?_
   (repeat' apply And.intro) <;> first | rfl | omega | assumption | exact Lim.nil | (rw [d3]) | (simp [val]; done)
  rintro k ⟨ρ2, σ, c4⟩ ⟨i, w, hk, hi, hw, hlw, hinv, h0, h6, h7, h33, h34, h8, hσ, hc4⟩
  dsimp only at h0 h6 h7 h33 h34 h8 hσ hc4
  subst hσ
  by_cases g : (i : Int) < m
  ·have hi' : i < m := by omega
   have hxi := hX.getD (i := i) (by decide)
   obtain ⟨o1, o2⟩ := down_limb (y := (x.drop q).getD (i + 1) 0) hs64 hxi
   have e1 : ((q : Int) + (i : Int)).toNat = q + i := by omega
   have e1b : q + i < x.length := by omega
   have e2 : ((q : Int) + (i : Int) + 1).toNat = q + (i + 1) := by omega
   have e3 : min s 64 = s := by omega
   have e4 : (63 + (18446744073709551616 - s % 18446744073709551616)) % 18446744073709551616 = 63 - s := by omega
   have e5 : min (63 - s) 64 = 63 - s := by omega
   have e6 : (x.drop q).getD i 0 / 2 ^ s < 18446744073709551616 := Nat.lt_of_le_of_lt (Nat.div_le_self _ _) hxi
   have e7 : (x.drop q).getD i 0 / 2 ^ s % 18446744073709551616 = (x.drop q).getD i 0 / 2 ^ s := Nat.mod_eq_of_lt e6
   have hlen1 : (w ++ List.replicate (m - i) 0).length = m := by simp; omega
   have hset1 : ∀ v, (w ++ List.replicate (m - i) 0).set i v = w ++ v :: List.replicate (m - (i + 1)) 0 := fun v => by
    conv => lhs; rw [← hw]
    rw [show m - w.length = m - (i + 1) + 1 by omega, List.replicate_succ, set_at]
   have hlen2 : ∀ v, (w ++ v :: List.replicate (m - (i + 1)) 0).length = m := fun v => by simp; omega
   have hget2 : ∀ v, (w ++ v :: List.replicate (m - (i + 1)) 0).getD i 0 = v := fun v => by rw [← hw]; exact getD_at _ _ _
   have hset2 : ∀ v u, (w ++ v :: List.replicate (m - (i + 1)) 0).set i u = w ++ u :: List.replicate (m - (i + 1)) 0 := fun v u => by
    conv => lhs; rw [← hw]
    rw [set_at, hw]
   have key := down_step (y := (x.drop q).getD (i + 1) 0) hw hinv hp rfl
   rw [← val_take (l := x.drop q) (i := i) (by omega)] at key
   have eapp : ∀ v, w ++ v :: List.replicate (m - (i + 1)) 0 = (w ++ [v]) ++ List.replicate (m - (i + 1)) 0 := fun v => by simp
   by_cases g5 : (q : Int) + (i : Int) + 1 < x.length
   ·have e2b : q + (i + 1) < x.length := by omega
    refine xRF (jn h0 (jn h6 (jn h7 (jn h33 (jn h34 (jn h8 (jn g (jn g5 (jn e1 (jn e1b (jn e2 (jn e2b (jn hg (jn e3 (jn e4 (jn e5 (jn e7 (jn hlen1 (jn hset1 (jn hlen2 (jn hget2 (jn hset2 (jn @u_or (jn @Nat.mod_mod o1)))))))))))))))))))))))) ?_
    refine ⟨m - (i + 1), by omega, i + 1, w ++ [(x.drop q).getD i 0 / 2 ^ s + ((x.drop q).getD (i + 1) 0 % 2 ^ s) * 2 ^ (64 - s)], ?_⟩
    rw [eapp]
    (repeat' apply And.intro) <;> first | rfl | exact key | exact lim_snoc hlw o2 | (simp [hw]; done) | omega | assumption
   ·have hy : (x.drop q).getD (i + 1) 0 = 0 := getD_ge (by omega)
    rw [hy, Nat.zero_mod, Nat.zero_mul, Nat.add_zero] at key
    refine xRF (jn h0 (jn h6 (jn h7 (jn h33 (jn h34 (jn h8 (jn g (jn g5 (jn e1 (jn e1b (jn e2 (jn hg (jn e3 (jn e4 (jn e5 (jn e7 (jn hlen1 hset1))))))))))))))))) ?_
    refine ⟨m - (i + 1), by omega, i + 1, w ++ [(x.drop q).getD i 0 / 2 ^ s], ?_⟩
    rw [eapp, hy, Nat.zero_mod]
    (repeat' apply And.intro) <;> first | rfl | exact key | exact lim_snoc hlw e6 | (simp [hw]; done) | omega | assumption
  ·have hi' : i = m := by omega
   have e8 : (x.drop q).length = m := by rw [hlX, hm]
   subst hi'
   refine xRF (jn h0 (jn h6 (jn h7 (jn h33 (jn h34 (jn h8 g)))))) ?_
   have e9 : (x.drop q).take i = x.drop q := List.take_of_length_le (Nat.le_of_eq e8)
   rw [e9, getD_ge (l := x.drop q) (Nat.le_of_eq e8), Nat.zero_mod, Nat.mul_zero, Nat.add_zero] at hinv
   refine ⟨w, ?_⟩
   have e0 : w ++ List.replicate (i - i) 0 = w := by simp
   rw [e0]
   have hv : val 18446744073709551616 w = val 18446744073709551616 (x.drop q) / 2 ^ s := (div_mod_of hinv (Nat.mod_lt _ (Nat.two_pow_pos s))).1.symm
   (repeat' apply And.intro) <;> first | rfl | omega | assumption | exact hv
 rintro ⟨ρ3, σ, c5⟩ ⟨w, hw, hlw, hvw, h8, hσ, hc5⟩
 dsimp only at h8 hσ hc5
 subst hσ
 refine v_freeze 8 (t := c2) (off := 0) (n := m) (cap := some m) (l := w) (ySF h8) yS (by omega) (by omega) ?_
 rw [List.drop_zero, show w.take m = w from List.take_of_length_le (by omega)]
 refine xR ?_
 refine s_call (told_spec (.id c2) w c5 hlw (by omega)) yM ?_
 rintro v c6 hc6 rfl
 rw [hvw, ← hvr]
 by_cases gb : bl (val 18446744073709551616 a / 2 ^ n) ≤ 67108864
 ·rw [if_pos gb]
  refine xR ?_
  exact .inl ⟨gb, .id c2, rfl, .inr ⟨c2, rfl, by omega, by omega⟩⟩
 ·rw [if_neg gb]
  refine xR ?_
  exact .inr ⟨by omega, rfl⟩

structure Dy where
 neg : Bool
 m : Nat
 e : Int
def dy0 : Dy := ⟨false, 0, 0⟩
def dyOf (neg : Bool) (n : Nat) (e : Int) : Dy := if n = 0 then dy0 else ⟨neg, od n, e + (tz n : Int)⟩
structure Dy.Ok (d : Dy) : Prop where
 odd : d.m = 0 ∨ d.m % 2 = 1
 zero : d.m = 0 → d = dy0
theorem dyOf_ok (neg : Bool) (n : Nat) (e : Int) : (dyOf neg n e).Ok := by
 unfold dyOf
 split
 ·exact ⟨.inl rfl, fun _ => rfl⟩
 ·rename_i h
  exact ⟨.inr (tz_od h).2, fun h2 => absurd h2 (Nat.ne_of_gt (od_pos h))⟩
theorem dyOf_self {d : Dy} (h : d.Ok) (k : Int) : dyOf d.neg d.m (d.e + k) = if d.m = 0 then dy0 else ⟨d.neg, d.m, d.e + k⟩ := by
 unfold dyOf
 by_cases g : d.m = 0
 ·rw [if_pos g, if_pos g]
 ·rw [if_neg g, if_neg g]
  have h1 := h.odd.resolve_left g
  obtain ⟨h2, h3⟩ := tz_uniq (n := d.m) (k := 0) (m := d.m) (by simp) h1
  rw [h2, h3]
  simp
theorem od_le (n : Nat) : od n ≤ n := Nat.div_le_self _ _
theorem dyOf_le (neg : Bool) (n : Nat) (e : Int) : (dyOf neg n e).m ≤ n := by
 unfold dyOf
 split
 ·exact Nat.zero_le _
 ·exact od_le n
theorem tz_le_bl (n : Nat) : tz n ≤ bl n := by
 by_cases h : n = 0
 ·rw [h, tz_zero]; exact Nat.zero_le _
 ·exact Nat.le_of_lt (tz_lt h (lt_bl n))
def Dy.sg (d : Dy) : Int := if d.m = 0 then 0 else if d.neg = true then -1 else 1
def Dy.top (d : Dy) : Int := d.e + (bl d.m : Int) - 1
def cmpD (x y : Dy) : Int :=
 if x.sg < y.sg then -1 else if y.sg < x.sg then 1 else if x.sg = 0 then 0 else
 if x.top < y.top then - x.sg else if y.top < x.top then x.sg else
 x.sg * cmpI (x.m * 2 ^ (x.e - y.e).toNat) (y.m * 2 ^ (y.e - x.e).toNat)
theorem sg_cases (d : Dy) : (d.m = 0 ∧ d.sg = 0) ∨ (d.m ≠ 0 ∧ d.neg = true ∧ d.sg = -1) ∨ (d.m ≠ 0 ∧ d.neg = false ∧ d.sg = 1) := by
 unfold Dy.sg
 by_cases g : d.m = 0
 ·exact .inl ⟨g, if_pos g⟩
 ·rw [if_neg g]
  cases h : d.neg
  ·exact .inr (.inr ⟨g, rfl, by simp⟩)
  ·exact .inr (.inl ⟨g, rfl, by simp⟩)
theorem bl_shl {x k : Nat} (h : x ≠ 0) : bl (x * 2 ^ k) = bl x + k := by
 have h1 : 2 ^ (bl x - 1) ≤ x := by
  rcases Nat.lt_or_ge x (2 ^ (bl x - 1)) with g | g
  ·have := bl_le g
   have := bl_pos (Nat.pos_of_ne_zero h)
   omega
  ·exact g
 have h2 := lt_bl x
 have hp : 0 < 2 ^ k := Nat.two_pow_pos k
 have h3 := bl_pos (Nat.pos_of_ne_zero h)
 have e := bl_eq (n := x * 2 ^ k) (k := bl x + k - 1) (by
  rw [show bl x + k - 1 = (bl x - 1) + k by omega, Nat.pow_add]
  exact Nat.mul_le_mul_right _ h1) (by
  rw [show bl x + k - 1 + 1 = bl x + k by omega, Nat.pow_add]
  exact (Nat.mul_lt_mul_right hp).2 h2)
 omega

theorem mag_lt {m n a b : Nat} (hn : n ≠ 0) (h : a + bl m < b + bl n) : m * 2 ^ a < n * 2 ^ b := by
 have h1 : m * 2 ^ a < 2 ^ bl m * 2 ^ a := (Nat.mul_lt_mul_right (Nat.two_pow_pos a)).2 (lt_bl m)
 have h2 : 2 ^ (bl n - 1) * 2 ^ b ≤ n * 2 ^ b := Nat.mul_le_mul_right _ (le_of_bl (Nat.pos_of_ne_zero hn))
 have h3 : 2 ^ bl m * 2 ^ a ≤ 2 ^ (bl n - 1) * 2 ^ b := by
  rw [← Nat.pow_add, ← Nat.pow_add]
  exact Nat.pow_le_pow_right (by decide) (by omega)
 omega
theorem mag_cut {m n a b : Nat} : m * 2 ^ a < n * 2 ^ b ↔ m * 2 ^ (a - b) < n * 2 ^ (b - a) := by
 rcases Nat.le_total a b with h | h
 ·obtain ⟨k, rfl⟩ := Nat.exists_eq_add_of_le h
  rw [Nat.sub_eq_zero_of_le h, Nat.add_sub_cancel_left, Nat.pow_add, Nat.pow_zero, Nat.mul_one, Nat.mul_comm (2 ^ a), ← Nat.mul_assoc]
  exact Nat.mul_lt_mul_right (Nat.two_pow_pos a)
 ·obtain ⟨k, rfl⟩ := Nat.exists_eq_add_of_le h
  rw [Nat.sub_eq_zero_of_le h, Nat.add_sub_cancel_left, Nat.pow_add, Nat.pow_zero, Nat.mul_one, Nat.mul_comm (2 ^ b), ← Nat.mul_assoc]
  exact Nat.mul_lt_mul_right (Nat.two_pow_pos b)
theorem cmpI_cases (a b : Nat) : (a < b ∧ cmpI a b = -1) ∨ (a = b ∧ cmpI a b = 0) ∨ (b < a ∧ cmpI a b = 1) := by
 unfold cmpI
 rcases Nat.lt_trichotomy a b with h | h | h
 ·exact .inl ⟨h, if_pos h⟩
 ·exact .inr (.inl ⟨h, by rw [if_neg (by omega), if_pos h]⟩)
 ·exact .inr (.inr ⟨h, by rw [if_neg (by omega), if_neg (by omega)]⟩)
theorem mag_cmp (m n a b : Nat) : cmpI (m * 2 ^ (a - b)) (n * 2 ^ (b - a)) = cmpI (m * 2 ^ a) (n * 2 ^ b) := by
 have h1 := mag_cut (m := m) (n := n) (a := a) (b := b)
 have h2 := mag_cut (m := n) (n := m) (a := b) (b := a)
 rcases cmpI_cases (m * 2 ^ (a - b)) (n * 2 ^ (b - a)) with ⟨h, e⟩ | ⟨h, e⟩ | ⟨h, e⟩ <;> rw [e] <;>
  rcases cmpI_cases (m * 2 ^ a) (n * 2 ^ b) with ⟨h', e'⟩ | ⟨h', e'⟩ | ⟨h', e'⟩ <;> rw [e'] <;> first | rfl | (exfalso; omega)
def cmpM (x y : Dy) : Int := if x.top < y.top then -1 else if y.top < x.top then 1 else cmpI (x.m * 2 ^ (x.e - y.e).toNat) (y.m * 2 ^ (y.e - x.e).toNat)
theorem cmpM_eq {x y : Dy} {E : Int} (hx : x.m ≠ 0) (hy : y.m ≠ 0) (ex : E ≤ x.e) (ey : E ≤ y.e) : cmpM x y = cmpI (x.m * 2 ^ (x.e - E).toNat) (y.m * 2 ^ (y.e - E).toNat) := by
 unfold cmpM Dy.top
 have bx := bl_pos (Nat.pos_of_ne_zero hx)
 have by' := bl_pos (Nat.pos_of_ne_zero hy)
 split
 ·rename_i h
  have := mag_lt (m := x.m) (a := (x.e - E).toNat) (b := (y.e - E).toNat) hy (by omega)
  unfold cmpI
  rw [if_pos this]
 ·split
  ·rename_i h
   have := mag_lt (m := y.m) (a := (y.e - E).toNat) (b := (x.e - E).toNat) hx (by omega)
   unfold cmpI
   rw [if_neg (by omega), if_neg (by omega)]
  ·have e1 : (x.e - y.e).toNat = (x.e - E).toNat - (y.e - E).toNat := by omega
   have e2 : (y.e - x.e).toNat = (y.e - E).toNat - (x.e - E).toNat := by omega
   rw [e1, e2, mag_cmp]
theorem cmpD_eq (x y : Dy) : cmpD x y = if x.sg < y.sg then -1 else if y.sg < x.sg then 1 else if x.sg = 0 then 0 else x.sg * cmpM x y := by
 unfold cmpD cmpM
 repeat' split
 all_goals first | rfl | omega
def zv (E : Int) (d : Dy) : Int := d.sg * ((d.m * 2 ^ (d.e - E).toNat : Nat) : Int)
def sgn (z : Int) : Int := if z < 0 then -1 else if z = 0 then 0 else 1
theorem sgn_cases (z : Int) : (z < 0 ∧ sgn z = -1) ∨ (z = 0 ∧ sgn z = 0) ∨ (0 < z ∧ sgn z = 1) := by
 unfold sgn
 rcases Int.lt_trichotomy z 0 with h | h | h
 ·exact .inl ⟨h, if_pos h⟩
 ·exact .inr (.inl ⟨h, by rw [if_neg (by omega), if_pos h]⟩)
 ·exact .inr (.inr ⟨h, by rw [if_neg (by omega), if_neg (by omega)]⟩)
theorem cmpD_zv {x y : Dy} {E : Int} (ex : E ≤ x.e) (ey : E ≤ y.e) : cmpD x y = sgn (zv E x - zv E y) := by
 have px : x.m ≠ 0 → 0 < x.m * 2 ^ (x.e - E).toNat := fun h => Nat.mul_pos (Nat.pos_of_ne_zero h) (Nat.two_pow_pos _)
 have py : y.m ≠ 0 → 0 < y.m * 2 ^ (y.e - E).toNat := fun h => Nat.mul_pos (Nat.pos_of_ne_zero h) (Nat.two_pow_pos _)
 rw [cmpD_eq]
 unfold zv
 have hm : x.m ≠ 0 → y.m ≠ 0 → _ := fun h1 h2 => cmpM_eq h1 h2 ex ey
 generalize hX : x.m * 2 ^ (x.e - E).toNat = X at *
 generalize hY : y.m * 2 ^ (y.e - E).toNat = Y at *
 rcases sg_cases x with ⟨h1, h2⟩ | ⟨h1, _, h2⟩ | ⟨h1, _, h2⟩ <;> rcases sg_cases y with ⟨g1, g2⟩ | ⟨g1, _, g2⟩ | ⟨g1, _, g2⟩ <;> rw [h2, g2]
 ·simp [sgn]
 ·have := py g1
  rcases sgn_cases (0 * (X : Int) - -1 * (Y : Int)) with ⟨a, b⟩ | ⟨a, b⟩ | ⟨a, b⟩ <;> rw [b] <;> first | rfl | (exfalso; omega)
 ·have := py g1
  rcases sgn_cases (0 * (X : Int) - 1 * (Y : Int)) with ⟨a, b⟩ | ⟨a, b⟩ | ⟨a, b⟩ <;> rw [b] <;> first | rfl | (exfalso; omega)
 ·have := px h1
  rcases sgn_cases (-1 * (X : Int) - 0 * (Y : Int)) with ⟨a, b⟩ | ⟨a, b⟩ | ⟨a, b⟩ <;> rw [b] <;> first | rfl | (exfalso; omega)
 ·rw [hm h1 g1]
  rcases cmpI_cases X Y with ⟨p, q⟩ | ⟨p, q⟩ | ⟨p, q⟩ <;> rw [q] <;>
   rcases sgn_cases (-1 * (X : Int) - -1 * (Y : Int)) with ⟨a, b⟩ | ⟨a, b⟩ | ⟨a, b⟩ <;> rw [b] <;> first | rfl | (exfalso; omega)
 ·have := px h1
  have := py g1
  rcases sgn_cases (-1 * (X : Int) - 1 * (Y : Int)) with ⟨a, b⟩ | ⟨a, b⟩ | ⟨a, b⟩ <;> rw [b] <;> first | rfl | (exfalso; omega)
 ·have := px h1
  rcases sgn_cases (1 * (X : Int) - 0 * (Y : Int)) with ⟨a, b⟩ | ⟨a, b⟩ | ⟨a, b⟩ <;> rw [b] <;> first | rfl | (exfalso; omega)
 ·have := px h1
  have := py g1
  rcases sgn_cases (1 * (X : Int) - -1 * (Y : Int)) with ⟨a, b⟩ | ⟨a, b⟩ | ⟨a, b⟩ <;> rw [b] <;> first | rfl | (exfalso; omega)
 ·rw [hm h1 g1]
  rcases cmpI_cases X Y with ⟨p, q⟩ | ⟨p, q⟩ | ⟨p, q⟩ <;> rw [q] <;>
   rcases sgn_cases (1 * (X : Int) - 1 * (Y : Int)) with ⟨a, b⟩ | ⟨a, b⟩ | ⟨a, b⟩ <;> rw [b] <;> first | rfl | (exfalso; omega)
theorem cmpD_flip (x y : Dy) : cmpD y x = - cmpD x y := by
 obtain ⟨E, h1, h2⟩ : ∃ E : Int, E ≤ x.e ∧ E ≤ y.e := ⟨min x.e y.e, by omega, by omega⟩
 rw [cmpD_zv h1 h2, cmpD_zv h2 h1]
 rcases sgn_cases (zv E x - zv E y) with ⟨a, b⟩ | ⟨a, b⟩ | ⟨a, b⟩ <;> rw [b] <;>
  rcases sgn_cases (zv E y - zv E x) with ⟨p, q⟩ | ⟨p, q⟩ | ⟨p, q⟩ <;> rw [q] <;> first | rfl | (exfalso; omega)
theorem cmpD_cases (x y : Dy) : cmpD x y = -1 ∨ cmpD x y = 0 ∨ cmpD x y = 1 := by
 obtain ⟨E, h1, h2⟩ : ∃ E : Int, E ≤ x.e ∧ E ≤ y.e := ⟨min x.e y.e, by omega, by omega⟩
 rw [cmpD_zv h1 h2]
 rcases sgn_cases (zv E x - zv E y) with ⟨a, b⟩ | ⟨a, b⟩ | ⟨a, b⟩ <;> rw [b] <;> simp
theorem cmpD_self (x : Dy) : cmpD x x = 0 := by have := cmpD_flip x x; omega
def leD (x y : Dy) : Prop := cmpD x y ≤ 0
theorem leD_iff {x y : Dy} {E : Int} (ex : E ≤ x.e) (ey : E ≤ y.e) : leD x y ↔ zv E x ≤ zv E y := by
 unfold leD
 rw [cmpD_zv ex ey]
 rcases sgn_cases (zv E x - zv E y) with ⟨a, b⟩ | ⟨a, b⟩ | ⟨a, b⟩ <;> rw [b] <;> omega
theorem leD_trans {x y z : Dy} (h1 : leD x y) (h2 : leD y z) : leD x z := by
 obtain ⟨E, e1, e2, e3⟩ : ∃ E : Int, E ≤ x.e ∧ E ≤ y.e ∧ E ≤ z.e := ⟨min x.e (min y.e z.e), by omega, by omega, by omega⟩
 rw [leD_iff e1 e2] at h1
 rw [leD_iff e2 e3] at h2
 rw [leD_iff e1 e3]
 omega
theorem leD_total (x y : Dy) : leD x y ∨ leD y x := by
 unfold leD
 have := cmpD_flip x y
 omega
theorem leD_refl (x : Dy) : leD x x := by unfold leD; rw [cmpD_self]; omega
def minD (x y : Dy) : Dy := if cmpD x y ≤ 0 then x else y
def maxD (x y : Dy) : Dy := if 0 ≤ cmpD x y then x else y
def negD (d : Dy) : Dy := if d.m = 0 then dy0 else ⟨!d.neg, d.m, d.e⟩
theorem negD_ok {d : Dy} (h : d.Ok) : (negD d).Ok := by
 unfold negD
 split
 ·exact ⟨.inl rfl, fun _ => rfl⟩
 ·rename_i g
  exact ⟨h.odd, fun h2 => absurd h2 g⟩
theorem dyOf_neg (neg : Bool) (n : Nat) (e : Int) : dyOf (!neg) n e = negD (dyOf neg n e) := by
 unfold dyOf negD
 split
 ·simp [dy0]
 ·rename_i h
  rw [if_neg (Nat.ne_of_gt (od_pos h))]
theorem negD_zv {E : Int} {d : Dy} : zv E (negD d) = - zv E d := by
 unfold zv negD
 rcases sg_cases d with ⟨h1, h2⟩ | ⟨h1, h3, h2⟩ | ⟨h1, h3, h2⟩
 ·rw [if_pos h1, h2]; simp [dy0]
 ·rw [if_neg h1, h2]; simp [Dy.sg, h1, h3]
 ·rw [if_neg h1, h2]; simp [Dy.sg, h1, h3]
theorem dyOf_zv {neg : Bool} {n : Nat} {e E : Int} (h : E ≤ e) (h0 : E ≤ 0) : zv E (dyOf neg n e) = (if neg = true then -1 else 1) * ((n * 2 ^ (e - E).toNat : Nat) : Int) ∧ E ≤ (dyOf neg n e).e := by
 unfold dyOf
 by_cases g : n = 0
 ·rw [if_pos g]
  subst g
  refine ⟨?_, h0⟩
  simp [zv, dy0, Dy.sg]
 ·rw [if_neg g]
  have h1 := (tz_od g).1
  refine ⟨?_, by show E ≤ e + (tz n : Int); omega⟩
  have e1 : (e + (tz n : Int) - E).toNat = tz n + (e - E).toNat := by omega
  have e2 : od n * 2 ^ (tz n + (e - E).toNat) = n * 2 ^ (e - E).toNat := by
   rw [Nat.pow_add, ← Nat.mul_assoc, Nat.mul_comm (od n), ← h1]
  unfold zv Dy.sg
  simp only
  rw [if_neg (Nat.ne_of_gt (od_pos g)), e1, e2]

theorem dyOf_shift (neg : Bool) (n k : Nat) (e : Int) : dyOf neg (n * 2 ^ k) e = dyOf neg n (e + (k : Int)) := by
 unfold dyOf
 by_cases g : n = 0
 ·subst g; simp
 ·have hp : 0 < 2 ^ k := Nat.two_pow_pos k
  have g2 : n * 2 ^ k ≠ 0 := Nat.mul_ne_zero g (Nat.ne_of_gt hp)
  rw [if_neg g, if_neg g2]
  obtain ⟨h1, h2⟩ := tz_od g
  obtain ⟨h3, h4⟩ := tz_uniq (n := n * 2 ^ k) (k := tz n + k) (m := od n) (by rw [Nat.pow_add, Nat.mul_assoc, Nat.mul_comm (2 ^ k), ← Nat.mul_assoc, ← h1]) h2
  rw [h3, h4]
  congr 1
  omega
theorem dyOf_id {d : Dy} (h : d.Ok) : dyOf d.neg d.m d.e = d := by
 have := dyOf_self h 0
 rw [Int.add_zero] at this
 rw [this]
 split
 ·rename_i g; exact (h.zero g).symm
 ·rfl
def ofZ (z e : Int) : Dy := dyOf (decide (z < 0)) z.natAbs e
theorem ofZ_ok (z e : Int) : (ofZ z e).Ok := dyOf_ok _ _ _
theorem dyOf_ofZ (neg : Bool) (n : Nat) (e : Int) : dyOf neg n e = ofZ ((if neg = true then -1 else 1) * (n : Int)) e := by
 unfold ofZ
 by_cases g : n = 0
 ·subst g; simp [dyOf]
 ·cases neg
  ·rw [if_neg (by decide)]
   have h1 : decide ((1 : Int) * (n : Int) < 0) = false := decide_eq_false (by omega)
   have h2 : ((1 : Int) * (n : Int)).natAbs = n := by omega
   rw [h1, h2]
  ·rw [if_pos rfl]
   have h1 : decide ((-1 : Int) * (n : Int) < 0) = true := decide_eq_true (by omega)
   have h2 : ((-1 : Int) * (n : Int)).natAbs = n := by omega
   rw [h1, h2]
theorem sg_sign {d : Dy} (h : d.m ≠ 0) : d.sg = if d.neg = true then -1 else 1 := by unfold Dy.sg; rw [if_neg h]
theorem zv_sign {E : Int} {d : Dy} : zv E d = (if d.neg = true then -1 else 1) * ((d.m * 2 ^ (d.e - E).toNat : Nat) : Int) := by
 unfold zv
 by_cases g : d.m = 0
 ·rw [g, Nat.zero_mul]; simp
 ·rw [sg_sign g]
theorem ofZ_zv {E : Int} {d : Dy} (h : d.Ok) (hE : E ≤ d.e) : ofZ (zv E d) E = d := by
 rw [zv_sign, ← dyOf_ofZ, dyOf_shift, show E + ((d.e - E).toNat : Int) = d.e by omega, dyOf_id h]
theorem ofZ_mul (z : Int) (k : Nat) (e : Int) : ofZ (z * ((2 ^ k : Nat) : Int)) e = ofZ z (e + (k : Int)) := by
 unfold ofZ
 have hp : 0 < 2 ^ k := Nat.two_pow_pos k
 have h1 : decide (z * ((2 ^ k : Nat) : Int) < 0) = decide (z < 0) := by
  rcases Int.lt_trichotomy z 0 with g | g | g
  ·have : z * ((2 ^ k : Nat) : Int) < 0 := Int.mul_neg_of_neg_of_pos g (by omega)
   rw [decide_eq_true this, decide_eq_true g]
  ·subst g; simp
  ·have : 0 < z * ((2 ^ k : Nat) : Int) := Int.mul_pos g (by omega)
   rw [decide_eq_false (by omega), decide_eq_false (by omega)]
 rw [h1, Int.natAbs_mul, Int.natAbs_natCast, dyOf_shift]
theorem zv_low {E E' : Int} {d : Dy} (h : E ≤ d.e) (h' : E' ≤ E) : zv E' d = zv E d * ((2 ^ (E - E').toNat : Nat) : Int) := by
 unfold zv
 rw [show (d.e - E').toNat = (d.e - E).toNat + (E - E').toNat by omega, Nat.pow_add, ← Nat.mul_assoc, Int.natCast_mul (d.m * _), Int.mul_assoc]
def addD (x y : Dy) : Dy := ofZ (zv (min x.e y.e) x + zv (min x.e y.e) y) (min x.e y.e)
theorem addD_at {x y : Dy} {E : Int} (hx : E ≤ x.e) (hy : E ≤ y.e) : addD x y = ofZ (zv E x + zv E y) E := by
 unfold addD
 have hm : E ≤ min x.e y.e := by omega
 rw [zv_low (E := min x.e y.e) (E' := E) (by omega) hm, zv_low (d := y) (E := min x.e y.e) (E' := E) (by omega) hm, ← Int.add_mul, ofZ_mul]
 congr 1
 omega
theorem addD_comm (x y : Dy) : addD x y = addD y x := by
 unfold addD
 rw [Int.min_comm, Int.add_comm]
theorem addD_ok (x y : Dy) : (addD x y).Ok := ofZ_ok _ _
theorem addD_zero {x y : Dy} (hy : y.Ok) (h : x = dy0) : addD x y = y := by
 subst h
 obtain ⟨E, h1, h2⟩ : ∃ E : Int, E ≤ dy0.e ∧ E ≤ y.e := ⟨min dy0.e y.e, by omega, by omega⟩
 rw [addD_at h1 h2]
 have : zv E dy0 = 0 := by simp [zv, dy0, Dy.sg]
 rw [this, Int.zero_add, ofZ_zv hy h2]
def addW (an : Bool) (a : Nat) (bn : Bool) (b : Nat) : Bool × Nat := if an = bn then (an, a + b) else if a < b then (bn, b - a) else (an, a - b)
theorem addW_ofZ (an : Bool) (a : Nat) (bn : Bool) (b : Nat) (e : Int) : dyOf (addW an a bn b).1 (addW an a bn b).2 e = ofZ ((if an = true then -1 else 1) * (a : Int) + (if bn = true then -1 else 1) * (b : Int)) e := by
 rw [dyOf_ofZ]
 congr 1
 unfold addW
 cases an <;> cases bn <;> simp only [if_true, if_false, Bool.false_eq_true, reduceIte, reduceCtorEq] <;> first | omega | (split <;> simp only [if_true, if_false, Bool.false_eq_true, reduceIte] <;> omega)
theorem addD_addW {x y : Dy} (h : y.e ≤ x.e) : addD x y = dyOf (addW x.neg (x.m * 2 ^ (x.e - y.e).toNat) y.neg y.m).1 (addW x.neg (x.m * 2 ^ (x.e - y.e).toNat) y.neg y.m).2 y.e := by
 rw [addW_ofZ, addD_at h (Int.le_refl _), zv_sign, zv_sign]
 congr 2
 rw [Int.sub_self]
 simp
def mulD (x y : Dy) : Dy := dyOf (x.neg != y.neg) (x.m * y.m) (x.e + y.e)
theorem mulD_ok (x y : Dy) : (mulD x y).Ok := dyOf_ok _ _ _
def rD (x : Dy) (pos : Int) (up : Bool) : Dy := if x.m = 0 ∨ pos ≤ x.e then x else dyOf x.neg (x.m / 2 ^ (pos - x.e).toNat + (if up = x.neg then 0 else 1)) pos
theorem rD_ok {x : Dy} (h : x.Ok) (pos : Int) (up : Bool) : (rD x pos up).Ok := by
 unfold rD
 split
 ·exact h
 ·exact dyOf_ok _ _ _
def fitE (e : Int) : Prop := -1099511627776 ≤ e ∧ e ≤ 1099511627776
instance (e : Int) : Decidable (fitE e) := by unfold fitE; infer_instance
def tE (d : Dy) : Int := if 67108864 < bl d.m then 3 else if fitE d.e then 0 else 80
def worstE (e f : Int) : Int := if e = 3 ∨ f = 3 then 3 else if e ≠ 0 then e else f
theorem tE_cases (d : Dy) : (67108864 < bl d.m ∧ tE d = 3) ∨ (bl d.m ≤ 67108864 ∧ fitE d.e ∧ tE d = 0) ∨ (bl d.m ≤ 67108864 ∧ ¬ fitE d.e ∧ tE d = 80) := by
 unfold tE
 by_cases h : 67108864 < bl d.m
 ·exact .inl ⟨h, if_pos h⟩
 ·rw [if_neg h]
  by_cases g : fitE d.e
  ·exact .inr (.inl ⟨by omega, g, if_pos g⟩)
  ·exact .inr (.inr ⟨by omega, g, if_neg g⟩)
theorem dy0_ok : dy0.Ok := ⟨.inl rfl, fun _ => rfl⟩

abbrev whV (neg : Bool) (t : Tok) (l : List Nat) : V := .agg [bv neg, nats t l]
abbrev raV (neg : Bool) (t : Tok) (l : List Nat) (e : Int) : V := .agg [bv neg, nats t l, iv e]
abbrev dyV (t : Tok) (d : Dy) : V := raV d.neg t (digs 18446744073709551616 d.m) d.e
def sgW (neg : Bool) (n : Nat) : Int := if n = 0 then 0 else if neg = true then -1 else 1
theorem sgW_dy (d : Dy) : sgW d.neg d.m = d.sg := rfl

theorem within_spec (e : Int) (c : Nat) : VSpec Tryz.prog F.dyadic_within c [iv e] (fun r _ => r = bv (decide (fitE e))) := by
 refine sG hm G.dyadic_within ?_
 unfold C.dyadic_within R.dyadic_within cD
 by_cases g1 : -1099511627776 ≤ e
 ·by_cases g2 : e ≤ 1099511627776
  ·have g : fitE e := ⟨g1, g2⟩
   refine xRF (jn g1 (jn g2 g)) ?_
   omega
  ·have g : ¬ fitE e := fun h => g2 h.2
   refine xRF (jn g1 (jn g2 g)) ?_
   omega
 ·have g : ¬ fitE e := fun h => g1 h.1
  refine xRF (jn g1 g) ?_
  omega

theorem sign_spec (neg : Bool) (t : Tok) (l : List Nat) (c : Nat) (hl : Lim 18446744073709551616 l) (hn : l.length ≤ 4398046511104) : VSpec Tryz.prog F.whole_Sign c [whV neg t l] (fun r _ => r = iv (sgW neg (val 18446744073709551616 l))) := by
 refine sG hm G.whole_Sign ?_
 unfold C.whole_Sign R.whole_Sign cD
 refine zR ?_
 refine s_call (length_spec t l (c + 1) hl hn) wS ?_
 rintro v c1 hc1 rfl
 by_cases g : val 18446744073709551616 l = 0
 ·have e : (bl (val 18446744073709551616 l) : Int) = 0 := by rw [g]; rfl
  refine zRF e ?_
  unfold sgW; rw [if_pos g]
 ·have e : ¬ (bl (val 18446744073709551616 l) : Int) = 0 := by have := bl_pos (Nat.pos_of_ne_zero g); omega
  cases neg
  ·refine zRF e ?_
   unfold sgW; rw [if_neg g]; rfl
  ·refine zRF e ?_
   unfold sgW; rw [if_neg g]; rfl

theorem psign_spec (neg : Bool) (t : Tok) (l : List Nat) (c : Nat) (hl : Lim 18446744073709551616 l) (hn : l.length ≤ 4398046511104) : VSpec Tryz.prog F.dyadic_part_sign c [whV neg t l] (fun r _ => r = iv (sgW neg (val 18446744073709551616 l))) := by
 refine sG hm G.dyadic_part_sign ?_
 unfold C.dyadic_part_sign R.dyadic_part_sign cD
 refine zR ?_
 refine s_call (sign_spec neg t l (c + 1) hl hn) wS ?_
 rintro v c1 hc1 rfl
 refine zR ?_
 exact yE
theorem plen_spec (neg : Bool) (t : Tok) (l : List Nat) (c : Nat) (hl : Lim 18446744073709551616 l) (hn : l.length ≤ 4398046511104) : VSpec Tryz.prog F.dyadic_part_length c [whV neg t l] (fun r _ => r = iv (bl (val 18446744073709551616 l))) := by
 refine sG hm G.dyadic_part_length ?_
 unfold C.dyadic_part_length R.dyadic_part_length cD
 refine zR ?_
 refine s_call (length_spec t l (c + 1) hl hn) wS ?_
 rintro v c1 hc1 rfl
 refine zR ?_
 exact yE

theorem shifted_spec (t : Tok) (l : List Nat) (k c : Nat) (hl : Lim 18446744073709551616 l) (hn : l.length ≤ 17179869184) (hk : k ≤ 1099511627776) (hb : bl (val 18446744073709551616 l / 2 ^ k) ≤ 67108864) : VSpec Tryz.prog F.dyadic_shifted c [nats t l, iv (k : Int)] (fun r c' => NatR c c' (val 18446744073709551616 l / 2 ^ k) r) := by
 refine sG hm G.dyadic_shifted ?_
 unfold C.dyadic_shifted R.dyadic_shifted cD
 refine zR ?_
 refine s_call (right_spec t l k c hl (by omega) hk) wS ?_
 rintro v c1 hc1 (⟨_, tk, rfl, htk⟩ | ⟨h, _⟩)
 ·refine zR ?_
  exact ⟨tk, rfl, htk⟩
 ·omega
theorem left_fast (t : Tok) (l : List Nat) (k c : Nat) (hl : Lim 18446744073709551616 l) (hn : l.length ≤ 17179869184) (hk : k ≤ 1099511627776) (hb : bl (val 18446744073709551616 l * 2 ^ k) ≤ 67108864) : VSpec Tryz.prog F.dyadic_left c [nats t l, iv (k : Int)] (fun r c' => NatR c c' (val 18446744073709551616 l * 2 ^ k) r) := by
 refine sG hm G.dyadic_left ?_
 unfold C.dyadic_left R.dyadic_left cD
 refine zR ?_
 refine s_call (left_spec t l k c hl (by omega) (by omega)) wS ?_
 rintro v c1 hc1 (⟨_, tk, rfl, htk⟩ | ⟨h, _⟩)
 ·refine zR ?_
  exact ⟨tk, rfl, htk⟩
 ·omega

theorem odd_spec (neg : Bool) (t : Tok) (l : List Nat) (e : Int) (c : Nat) (hl : Lim 18446744073709551616 l) (hn : l.length ≤ 17179869184) (he1 : -4611686018427387904 ≤ e) (he2 : e ≤ 4611686018427387904) (hb : tz (val 18446744073709551616 l) = 0 ∨ bl (od (val 18446744073709551616 l)) ≤ 67108864) :
  VSpec Tryz.prog F.dyadic_odd c [whV neg t l, iv e] (fun r c' => ∃ tk, r = dyV tk (dyOf neg (val 18446744073709551616 l) e) ∧ Tk c c' tk) := by
 refine sG hm G.dyadic_odd ?_
 unfold C.dyadic_odd R.dyadic_odd cD
 refine zR ?_
 refine s_call (sign_spec neg t l (c + 2) hl (by omega)) wS ?_
 rintro v c1 hc1 rfl
 by_cases g : val 18446744073709551616 l = 0
 ·have e0 : sgW neg (val 18446744073709551616 l) = 0 := by unfold sgW; rw [if_pos g]
  refine zRF e0 ?_
  refine ⟨.nil, ?_, .inl rfl⟩
  rw [g]
  rfl
 ·have e0 : ¬ sgW neg (val 18446744073709551616 l) = 0 := by unfold sgW; rw [if_neg g]; split <;> decide
  have hlen := digs_len_le two64 hl
  have hld := lim_digs two64 (val 18446744073709551616 l)
  have vd := val_digs two64 (val 18446744073709551616 l)
  have htz : tz (val 18446744073709551616 l) ≤ 64 * l.length := by
   have h1 := val_lt hl
   rw [pow64] at h1
   have := tz_lt g h1
   omega
  refine zRF e0 ?_
  refine s_call (norm_spec t l c1 hl (by omega)) wS ?_
  rintro v c2 hc2 ⟨tk, rfl, htk⟩
  refine zR ?_
  refine s_call (tail_spec tk (digs 18446744073709551616 (val 18446744073709551616 l)) c2 hld (by omega)) wS ?_
  rintro v c3 hc3 rfl
  rw [vd]
  have ed : dyOf neg (val 18446744073709551616 l) e = ⟨neg, od (val 18446744073709551616 l), e + (tz (val 18446744073709551616 l) : Int)⟩ := by unfold dyOf; rw [if_neg g]
  by_cases g2 : (0 : Int) < (tz (val 18446744073709551616 l) : Nat)
  ·refine zRF (jn e0 g2) ?_
   refine s_call (shifted_spec tk (digs 18446744073709551616 (val 18446744073709551616 l)) (tz (val 18446744073709551616 l)) c3 hld (by omega) (by omega) (by rw [vd]; exact hb.resolve_left (by omega))) wS ?_
   rintro v c4 hc4 ⟨tk2, rfl, htk2⟩
   rw [vd]
   refine zR ?_
   exact ⟨tk2, by rw [ed]; rfl, htk2.mono (by omega) (by omega)⟩
  ·have e1 : tz (val 18446744073709551616 l) = 0 := by omega
   refine zRF (jn e0 g2) ?_
   refine ⟨tk, ?_, htk.mono (by omega) (by omega)⟩
   rw [ed, e1]
   unfold od
   rw [e1, Nat.pow_zero, Nat.div_one]
end Go.Proofs.YtcafgpconlkecaaGreatDoor
namespace Go.VM
open Go.RowKit

def VoidR (r : V) : Prop := ∀ w M μ c v, ¬ Rep w M μ c r v
theorem voidR_nil {n : Nat} {l : List V} (hl : l ≠ []) : VoidR (.sl .nil n l) := by
 intro w M μ c v h
 cases h with
 | nil tk sz => exact hl rfl
 | sl _ _ m cap a _ vs ht hn hc hs hMb hcap h1 h2 =>
  have h0 : cap * n = 0 := ht
  have hc0 : cap = 0 := (Nat.mul_eq_zero.1 h0).resolve_right (by omega)
  subst hc0
  have hm0 : m = 0 := by omega
  have : l.length = 0 := by rw [hn, hm0, Nat.zero_mul]
  exact hl (List.eq_nil_of_length_eq_zero this)
theorem voidR_agg {l : List V} {x : V} (hm : x ∈ l) (hx : VoidR x) : VoidR (.agg l) := by
 intro w M μ c v h
 cases h with
 | agg _ cs hn h1 hl =>
  obtain ⟨j, hj⟩ := List.getElem?_of_mem hm
  have hjl := (List.getElem?_eq_some_iff.1 hj).1
  exact hx _ _ _ _ _ (hl j _ _ hj (Array.getElem?_eq_getElem (by omega)))
theorem VSpec.cleanR {P : Program} {f : FuncId} {c : Nat} {xs : List V} {Q1 Q2 : V → Nat → Prop} (h : VSpec P f c xs Q1) (hq : ∀ r c', c ≤ c' → Q1 r c' → Q2 r c' ∨ (r.one = true ∧ VoidR r ∧ ∃ r2 c2, c ≤ c2 ∧ Q2 r2 c2)) : VSpec P f c xs Q2 := by
 obtain ⟨r, c', h0, h1, h2⟩ := h
 rcases hq r c' h0 h2 with h | ⟨ho, hv, r2, c2, h3, h4⟩
 ·exact ⟨r, c', h0, h1, h⟩
 ·refine ⟨r2, c2, h3, fun w Φ μ vs hm0 hn ha => (h1 w Φ μ vs hm0 hn ha).mono ?_, h4⟩
  rintro e w' ⟨v, μ', _, _, hr⟩
  exact absurd (hr.one ho) (hv _ _ _ _ _)
theorem nb_app {t : Nat} : noBlk t = none := rfl
def Own1 (lo hi : Nat) (t : Tok) (l : List Nat) : Prop := (t = .nil ∧ l = []) ∨ ∃ i, t = .id i ∧ lo ≤ i ∧ i < hi
theorem Own1.mono {a b c d : Nat} {t : Tok} {l : List Nat} (h : Own1 a b t l) (h1 : c ≤ a) (h2 : b ≤ d) : Own1 c d t l := by
 rcases h with h | ⟨i, h, h3, h4⟩
 ·exact .inl h
 ·exact .inr ⟨i, h, by omega, by omega⟩
end Go.VM
namespace Go.Proofs.YtcafgpconlkecaaGreatDoor
open Go.VM

theorem odd_own (neg : Bool) (t : Tok) (l : List Nat) (e : Int) (c : Nat) (hl : Lim 18446744073709551616 l) (hn : l.length ≤ 17179869184) (he1 : -4611686018427387904 ≤ e) (he2 : e ≤ 4611686018427387904) (hb : tz (val 18446744073709551616 l) = 0 ∨ bl (od (val 18446744073709551616 l)) ≤ 67108864) :
  VSpec Tryz.prog F.dyadic_odd c [whV neg t l, iv e] (fun r c' => ∃ tk, r = dyV tk (dyOf neg (val 18446744073709551616 l) e) ∧ Own1 c c' tk (digs 18446744073709551616 (dyOf neg (val 18446744073709551616 l) e).m)) := by
 refine VSpec.cleanR (odd_spec neg t l e c hl hn he1 he2 hb) fun r c' hc ⟨tk, hr, htk⟩ => ?_
 subst hr
 rcases htk with rfl | ⟨i, rfl, h1, h2⟩
 ·by_cases g : digs 18446744073709551616 (dyOf neg (val 18446744073709551616 l) e).m = []
  ·exact .inl ⟨_, rfl, .inl ⟨rfl, g⟩⟩
  ·exact .inr ⟨rfl, voidR_agg (x := nats .nil (digs 18446744073709551616 (dyOf neg (val 18446744073709551616 l) e).m)) (by simp) (voidR_nil (by simpa using g)), _, c + 1, by omega, .id c, rfl, .inr ⟨c, rfl, by omega, by omega⟩⟩
 ·exact .inl ⟨_, rfl, .inr ⟨i, rfl, h1, h2⟩⟩

def ansD (d : Dy) : Dy := if tE d = 0 then d else dy0
theorem ansD_ok {d : Dy} (h : tE d = 0) : ansD d = d := if_pos h
theorem ansD_bad {d : Dy} (h : tE d ≠ 0) : ansD d = dy0 := if_neg h
def AnsD (c c' : Nat) (d : Dy) (r : V) : Prop := ∃ t, r = .tup [dyV t (ansD d), iv (tE d)] ∧ Own1 c c' t (digs 18446744073709551616 (ansD d).m)
theorem AnsD.mono {a b c d : Nat} {x : Dy} {r : V} (h : AnsD a b x r) (h1 : c ≤ a) (h2 : b ≤ d) : AnsD c d x r := by
 obtain ⟨t, h, ht⟩ := h
 exact ⟨t, h, ht.mono h1 h2⟩
theorem tz_len {l : List Nat} (hl : Lim 18446744073709551616 l) : tz (val 18446744073709551616 l) ≤ 64 * l.length := by
 by_cases g : val 18446744073709551616 l = 0
 ·rw [g, tz_zero]; exact Nat.zero_le _
 ·have h1 := val_lt hl
  rw [pow64] at h1
  exact Nat.le_of_lt (tz_lt g h1)
theorem dyOf_e {neg : Bool} {n : Nat} {e : Int} : (dyOf neg n e).e = if n = 0 then 0 else e + (tz n : Int) := by
 unfold dyOf; split <;> rfl
theorem dlen {d : Nat} {l : List Nat} (hl : Lim 18446744073709551616 l) (h : d ≤ val 18446744073709551616 l) : (digs 18446744073709551616 d).length ≤ l.length := Nat.le_trans (le_len two64 h) (digs_len_le two64 hl)

theorem dtold_spec (neg : Bool) (t : Tok) (l : List Nat) (e : Int) (c : Nat) (hl : Lim 18446744073709551616 l) (hn : l.length ≤ 17179869184) (he1 : -2305843009213693952 ≤ e) (he2 : e ≤ 2305843009213693952) (hb : tz (val 18446744073709551616 l) = 0 ∨ bl (od (val 18446744073709551616 l)) ≤ 67108864) :
  VSpec Tryz.prog F.dyadic_told c [whV neg t l, iv e] (fun r c' => AnsD c c' (dyOf neg (val 18446744073709551616 l) e) r) := by
 refine sG hm G.dyadic_told ?_
 unfold C.dyadic_told R.dyadic_told cD
 refine zR ?_
 refine s_call (odd_own neg t l e (c + 2) hl (by omega) (by omega) (by omega) hb) wS ?_
 rintro v c1 hc1 ⟨tk, rfl, htk⟩
 have hm := dyOf_le neg (val 18446744073709551616 l) e
 have hdl := dlen hl hm
 have hee := dyOf_e (neg := neg) (n := val 18446744073709551616 l) (e := e)
 have htz := tz_len hl
 have hok := dyOf_ok neg (val 18446744073709551616 l) e
 generalize dyOf neg (val 18446744073709551616 l) e = d at *
 have hld := lim_digs two64 d.m
 have vd := val_digs two64 d.m
 refine zR ?_
 refine s_call (psign_spec d.neg tk (digs 18446744073709551616 d.m) (c1 + 1) hld (by omega)) wS ?_
 rintro v c2 hc2 rfl
 rw [vd]
 by_cases g : d.m = 0
 ·have e0 : sgW d.neg d.m = 0 := by unfold sgW; rw [if_pos g]
  refine zRF e0 ?_
  rw [hok.zero g]
  exact ⟨.nil, rfl, .inl ⟨rfl, rfl⟩⟩
 ·have e0 : ¬ sgW d.neg d.m = 0 := by unfold sgW; rw [if_neg g]; split <;> decide
  refine zRF e0 ?_
  refine s_call (plen_spec d.neg tk (digs 18446744073709551616 d.m) c2 hld (by omega)) wS ?_
  rintro v c3 hc3 rfl
  rw [vd]
  rcases tE_cases d with ⟨h1, h2⟩ | ⟨h1, h2, h3⟩ | ⟨h1, h2, h3⟩
  ·have g1 : (67108864 : Int) < (bl d.m : Int) := by omega
   refine zRF (jn e0 g1) ?_
   refine ⟨.nil, ?_, .inl ⟨rfl, ?_⟩⟩
   ·rw [ansD_bad (by rw [h2]; decide), h2]; rfl
   ·rw [ansD_bad (by rw [h2]; decide)]; rfl
  ·have g1 : ¬ (67108864 : Int) < (bl d.m : Int) := by omega
   refine zRF (jn e0 g1) ?_
   refine s_call (within_spec d.e c3) wS ?_
   rintro v c4 hc4 rfl
   refine zRF (jn e0 (jn g1 h2)) ?_
   refine ⟨tk, ?_, ?_⟩
   ·rw [ansD_ok h3, h3]
   ·rw [ansD_ok h3]; exact htk.mono (by omega) (by omega)
  ·have g1 : ¬ (67108864 : Int) < (bl d.m : Int) := by omega
   refine zRF (jn e0 g1) ?_
   refine s_call (within_spec d.e c3) wS ?_
   rintro v c4 hc4 rfl
   refine zRF (jn e0 (jn g1 h2)) ?_
   refine ⟨.nil, ?_, .inl ⟨rfl, ?_⟩⟩
   ·rw [ansD_bad (by rw [h3]; decide), h3]; rfl
   ·rw [ansD_bad (by rw [h3]; decide)]; rfl

theorem n_neg' {x : Int} (h1 : -9223372036854775807 ≤ x) (h2 : x ≤ 9223372036854775807) : vun .neg (iv x) = some (iv (-x)) := by
 rw [n_neg, wrap_i64 (by omega) (by omega), Int.zero_sub]

structure Arg (l : List Nat) : Prop where
 lim : Lim 18446744073709551616 l
 len : l.length ≤ 1048576
theorem Arg.bl {l : List Nat} (h : Arg l) : Go.VM.bl (val 18446744073709551616 l) ≤ 67108864 := by
 have h1 := val_lt h.lim
 rw [pow64] at h1
 have := bl_le h1
 have := h.len
 omega
theorem arg_digs {n : Nat} (h : bl n ≤ 67108864) : Arg (digs 18446744073709551616 n) := ⟨lim_digs two64 n, digs_len_bl (by omega)⟩
theorem bl_od (n : Nat) : bl (od n) ≤ bl n := bl_mono (od_le n)
theorem dyOf_bl {neg : Bool} {n : Nat} {e : Int} : bl (dyOf neg n e).m ≤ bl n := bl_mono (dyOf_le neg n e)
theorem Arg.tz {l : List Nat} (h : Arg l) : Go.VM.tz (val 18446744073709551616 l) ≤ 67108864 := Nat.le_trans (tz_len h.lim) (by have := h.len; omega)

theorem read_spec (neg : Bool) (t : Tok) (l : List Nat) (e : Int) (c : Nat) (hl : Arg l) (he : fitE e) :
  VSpec Tryz.prog F.dyadic_read c [raV neg t l e] (fun r c' => ∃ tk, r = .tup [dyV tk (dyOf neg (val 18446744073709551616 l) e), iv 0] ∧ Own1 c c' tk (digs 18446744073709551616 (dyOf neg (val 18446744073709551616 l) e).m)) := by
 refine sG hm G.dyadic_read ?_
 unfold C.dyadic_read R.dyadic_read cD
 have hlen := hl.len
 have hb := hl.bl
 have hob := bl_od (val 18446744073709551616 l)
 have he' := he
 unfold fitE at he'
 refine zR ?_
 refine s_call (within_spec e (c + 2)) wS ?_
 rintro v c1 hc1 rfl
 refine zRF he ?_
 refine s_call (odd_own neg t l e c1 hl.lim (by omega) (by omega) (by omega) (.inr (by omega))) wS ?_
 rintro v c2 hc2 ⟨tk, rfl, htk⟩
 refine zR ?_
 exact ⟨tk, rfl, htk.mono (by omega) (by omega)⟩
theorem read_bad (neg : Bool) (t : Tok) (l : List Nat) (e : Int) (c : Nat) (he : ¬ fitE e) :
  VSpec Tryz.prog F.dyadic_read c [raV neg t l e] (fun r _ => r = .tup [dyV .nil dy0, iv 80]) := by
 refine sG hm G.dyadic_read ?_
 unfold C.dyadic_read R.dyadic_read cD
 refine zR ?_
 refine s_call (within_spec e (c + 2)) wS ?_
 rintro v c1 hc1 rfl
 refine zRF he ?_
 exact yE

theorem two_spec (na nb : Bool) (ta tb : Tok) (a b : List Nat) (ea eb : Int) (c : Nat) (ha : Arg a) (hb : Arg b) (hea : fitE ea) (heb : fitE eb) :
  VSpec Tryz.prog F.dyadic_two c [raV na ta a ea, raV nb tb b eb] (fun r c' => ∃ tx ty cm, c ≤ cm ∧ cm ≤ c' ∧ r = .tup [dyV tx (dyOf na (val 18446744073709551616 a) ea), dyV ty (dyOf nb (val 18446744073709551616 b) eb), iv 0] ∧ Own1 c cm tx (digs 18446744073709551616 (dyOf na (val 18446744073709551616 a) ea).m) ∧ Own1 cm c' ty (digs 18446744073709551616 (dyOf nb (val 18446744073709551616 b) eb).m)) := by
 refine sG hm G.dyadic_two ?_
 unfold C.dyadic_two R.dyadic_two cD
 refine zR ?_
 refine s_call (read_spec na ta a ea (c + 4) ha hea) wS ?_
 rintro v c1 hc1 ⟨tx, rfl, htx⟩
 refine zR ?_
 refine s_call (read_spec nb tb b eb (c1 + 1) hb heb) wS ?_
 rintro v c2 hc2 ⟨ty, rfl, hty⟩
 refine zR ?_
 exact ⟨tx, ty, c1, by omega, by omega, rfl, htx.mono (by omega) (by omega), hty.mono (by omega) (by omega)⟩
theorem two_bad (na nb : Bool) (ta tb : Tok) (a b : List Nat) (ea eb : Int) (c : Nat) (ha : Arg a) (h : ¬ fitE ea ∨ ¬ fitE eb) :
  VSpec Tryz.prog F.dyadic_two c [raV na ta a ea, raV nb tb b eb] (fun r _ => ∃ x y, r = .tup [x, y, iv 80] ∧ (∃ n t l e, x = raV n t l e) ∧ (∃ n t l e, y = raV n t l e)) := by
 refine sG hm G.dyadic_two ?_
 unfold C.dyadic_two R.dyadic_two cD
 by_cases hea : fitE ea
 ·have heb := h.resolve_left (fun q => q hea)
  refine zR ?_
  refine s_call (read_spec na ta a ea (c + 4) ha hea) wS ?_
  rintro v c1 hc1 ⟨tx, rfl, htx⟩
  refine zR ?_
  refine s_call (read_bad nb tb b eb (c1 + 1) heb) wS ?_
  rintro v c2 hc2 rfl
  refine zR ?_
  exact ⟨_, _, rfl, ⟨_, _, _, _, rfl⟩, ⟨_, _, _, _, rfl⟩⟩
 ·refine zR ?_
  refine s_call (read_bad na ta a ea (c + 4) hea) wS ?_
  rintro v c1 hc1 rfl
  refine zR ?_
  exact ⟨_, _, rfl, ⟨_, _, _, _, rfl⟩, ⟨_, _, _, _, rfl⟩⟩

structure Num (d : Dy) : Prop where
 ok : d.Ok
 bits : bl d.m ≤ 67108864
 lo : -2199023255552 ≤ d.e
 hi : d.e ≤ 2199023255552
theorem Num.arg {d : Dy} (h : Num d) : Arg (digs 18446744073709551616 d.m) := arg_digs h.bits
theorem num_of {neg : Bool} {l : List Nat} {e : Int} (hl : Arg l) (he : fitE e) : Num (dyOf neg (val 18446744073709551616 l) e) := by
 have h1 := dyOf_e (neg := neg) (n := val 18446744073709551616 l) (e := e)
 have h2 := hl.tz
 unfold fitE at he
 refine ⟨dyOf_ok _ _ _, Nat.le_trans dyOf_bl hl.bl, ?_, ?_⟩ <;> (rw [h1]; split <;> omega)

theorem top_spec (t : Tok) (x : Dy) (c : Nat) (hx : Num x) : VSpec Tryz.prog F.dyadic_number_top c [dyV t x] (fun r _ => r = iv x.top) := by
 refine sG hm G.dyadic_number_top ?_
 unfold C.dyadic_number_top R.dyadic_number_top cD
 have h1 := hx.lo
 have h2 := hx.hi
 have h3 := hx.bits
 have ha := hx.arg
 have hlen := ha.len
 refine zR ?_
 refine s_call (plen_spec x.neg t (digs 18446744073709551616 x.m) (c + 1) ha.lim (by omega)) wS ?_
 rintro v c1 hc1 rfl
 rw [val_digs two64]
 refine zR ?_
 exact yE

theorem compare_spec' (tx ty : Tok) (x y : Dy) (c : Nat) (hx : Num x) (hy : Num y) : VSpec Tryz.prog F.dyadic_compare c [dyV tx x, dyV ty y] (fun r _ => r = iv (cmpD x y)) := by
 refine sG hm G.dyadic_compare ?_
 unfold C.dyadic_compare R.dyadic_compare cD
 have hxa := hx.arg
 have hya := hy.arg
 have hxl := hxa.len
 have hyl := hya.len
 have x1 := hx.lo
 have x2 := hx.hi
 have y1 := hy.lo
 have y2 := hy.hi
 refine zR ?_
 refine s_call (psign_spec x.neg tx (digs 18446744073709551616 x.m) (c + 2) hxa.lim (by omega)) wS ?_
 rintro v c1 hc1 rfl
 refine zR ?_
 refine s_call (psign_spec y.neg ty (digs 18446744073709551616 y.m) c1 hya.lim (by omega)) wS ?_
 rintro v c2 hc2 rfl
 rw [val_digs two64, val_digs two64, sgW_dy, sgW_dy]
 by_cases g1 : x.sg < y.sg
 ·have ec : cmpD x y = -1 := by unfold cmpD; rw [if_pos g1]
  refine zRF g1 ?_
  rw [ec]
 by_cases g2 : y.sg < x.sg
 ·have ec : cmpD x y = 1 := by unfold cmpD; rw [if_neg g1, if_pos g2]
  refine zRF (jn g1 g2) ?_
  rw [ec]
 by_cases g3 : x.sg = 0
 ·have ec : cmpD x y = 0 := by unfold cmpD; rw [if_neg g1, if_neg g2, if_pos g3]
  rw [g3] at g1 g2
  refine zRF (jn g1 (jn g2 g3)) ?_
  rw [ec]
 have ec : cmpD x y = if x.top < y.top then -x.sg else if y.top < x.top then x.sg else x.sg * cmpI (x.m * 2 ^ (x.e - y.e).toNat) (y.m * 2 ^ (y.e - x.e).toNat) := by
  unfold cmpD; rw [if_neg g1, if_neg g2, if_neg g3]
 have hs : x.sg = 1 ∨ x.sg = -1 := by rcases sg_cases x with ⟨_, h⟩ | ⟨_, _, h⟩ | ⟨_, _, h⟩ <;> omega
 have hxm : x.m ≠ 0 := fun e => g3 (by unfold Dy.sg; rw [if_pos e])
 have hym : y.m ≠ 0 := fun e => by
  have : y.sg = 0 := by unfold Dy.sg; rw [if_pos e]
  omega
 have bx := bl_pos (Nat.pos_of_ne_zero hxm)
 have by' := bl_pos (Nat.pos_of_ne_zero hym)
 have bx2 := hx.bits
 have by2 := hy.bits
 generalize cmpD x y = R at *
 generalize x.sg = s at *
 refine zRF (jn g1 (jn g2 g3)) ?_
 refine s_call (top_spec tx x c2 hx) wS ?_
 rintro v c3 hc3 rfl
 refine zR ?_
 refine s_call (top_spec ty y c3 hy) wS ?_
 rintro v c4 hc4 rfl
 by_cases g4 : x.top = y.top
 ·have e4 : x.e + (bl x.m : Int) = y.e + (bl y.m : Int) := by unfold Dy.top at g4; omega
  rw [if_neg (by omega), if_neg (by omega)] at ec
  by_cases g5 : y.e < x.e
  ·obtain ⟨k, hk⟩ : ∃ k : Nat, x.e - y.e = (k : Int) := ⟨(x.e - y.e).toNat, by omega⟩
   rw [show (x.e - y.e).toNat = k by omega, show (y.e - x.e).toNat = 0 by omega, Nat.pow_zero, Nat.mul_one] at ec
   refine zRF (jn g4 (jn g5 hk)) ?_
   refine s_call (left_fast tx (digs 18446744073709551616 x.m) k c4 hxa.lim (by omega) (by omega) (by rw [val_digs two64, bl_shl hxm]; omega)) wS ?_
   rintro v c5 hc5 ⟨t5, rfl, _⟩
   rw [val_digs two64]
   have hlb := digs_len_bl (m := x.m * 2 ^ k) (k := 1048576) (by rw [bl_shl hxm]; omega)
   refine zR ?_
   refine s_call (compare_spec t5 ty (digs 18446744073709551616 (x.m * 2 ^ k)) (digs 18446744073709551616 y.m) c5 (lim_digs two64 _) hya.lim (by omega) (by omega)) wS ?_
   rintro v c6 hc6 rfl
   rw [val_digs two64, val_digs two64]
   have hm3 := cmpI_cases (x.m * 2 ^ k) y.m
   generalize cmpI (x.m * 2 ^ k) y.m = q at *
   have hsq : -1 ≤ s * q ∧ s * q ≤ 1 := by
    rcases hs with rfl | rfl <;> omega
   refine zR ?_
   rw [ec]
  ·obtain ⟨k, hk⟩ : ∃ k : Nat, y.e - x.e = (k : Int) := ⟨(y.e - x.e).toNat, by omega⟩
   rw [show (x.e - y.e).toNat = 0 by omega, show (y.e - x.e).toNat = k by omega, Nat.pow_zero, Nat.mul_one] at ec
   refine zRF (jn g4 (jn g5 hk)) ?_
   refine s_call (left_fast ty (digs 18446744073709551616 y.m) k c4 hya.lim (by omega) (by omega) (by rw [val_digs two64, bl_shl hym]; omega)) wS ?_
   rintro v c5 hc5 ⟨t5, rfl, _⟩
   rw [val_digs two64]
   have hlb := digs_len_bl (m := y.m * 2 ^ k) (k := 1048576) (by rw [bl_shl hym]; omega)
   refine zR ?_
   refine s_call (compare_spec tx t5 (digs 18446744073709551616 x.m) (digs 18446744073709551616 (y.m * 2 ^ k)) c5 hxa.lim (lim_digs two64 _) (by omega) (by omega)) wS ?_
   rintro v c6 hc6 rfl
   rw [val_digs two64, val_digs two64]
   have hm3 := cmpI_cases x.m (y.m * 2 ^ k)
   generalize cmpI x.m (y.m * 2 ^ k) = q at *
   have hsq : -1 ≤ s * q ∧ s * q ≤ 1 := by
    rcases hs with rfl | rfl <;> omega
   refine zR ?_
   rw [ec]
 ·refine zRF g4 ?_
  refine s_call (top_spec tx x c4 hx) wS ?_
  rintro v c5 hc5 rfl
  refine zR ?_
  refine s_call (top_spec ty y c5 hy) wS ?_
  rintro v c6 hc6 rfl
  by_cases g5 : x.top < y.top
  ·rw [if_pos g5] at ec
   refine zRF (jn g4 (jn g5 @n_neg')) ?_
   rw [ec]
  ·rw [if_neg g5, if_pos (by omega)] at ec
   refine zRF (jn g4 g5) ?_
   rw [ec]

structure RD where
 neg : Bool
 l : List Nat
 e : Int
def RD.d (a : RD) : Dy := dyOf a.neg (val 18446744073709551616 a.l) a.e
def RD.of (d : Dy) : RD := ⟨d.neg, digs 18446744073709551616 d.m, d.e⟩
theorem RD.of_d {d : Dy} (h : d.Ok) : (RD.of d).d = d := by
 unfold RD.d RD.of
 simp only [val_digs two64]
 exact dyOf_id h
abbrev rdV (t : Tok) (a : RD) : V := raV a.neg t a.l a.e
abbrev rsV (t u : Tok) (a b : RD) : V := .agg [bv a.neg, nats t a.l, iv a.e, bv b.neg, nats u b.l, iv b.e]
structure RD.Ok (a : RD) : Prop where
 arg : Arg a.l
 fit : fitE a.e
theorem RD.Ok.num {a : RD} (h : a.Ok) : Num a.d := num_of h.arg h.fit

theorem Compare_spec (ta tb : Tok) (a b : RD) (c : Nat) (ha : a.Ok) (hb : b.Ok) : VSpec Tryz.prog F.dyadic_Compare c [rdV ta a, rdV tb b] (fun r _ => r = .tup [iv (cmpD a.d b.d), iv 0]) := by
 refine sG hm G.dyadic_Compare ?_
 unfold C.dyadic_Compare R.dyadic_Compare cD
 refine zR ?_
 refine s_call (two_spec a.neg b.neg ta tb a.l b.l a.e b.e (c + 2) ha.arg hb.arg ha.fit hb.fit) wS ?_
 rintro v c1 hc1 ⟨tx, ty, cm, h1, h2, rfl, _, _⟩
 refine zR ?_
 refine s_call (compare_spec' tx ty a.d b.d (c1 + 2) ha.num hb.num) wSr ?_
 rintro v c2 hc2 rfl
 refine zR ?_
 exact yE
theorem Compare_bad (ta tb : Tok) (a b : RD) (c : Nat) (ha : Arg a.l) (h : ¬ fitE a.e ∨ ¬ fitE b.e) : VSpec Tryz.prog F.dyadic_Compare c [rdV ta a, rdV tb b] (fun r _ => r = .tup [iv 0, iv 80]) := by
 refine sG hm G.dyadic_Compare ?_
 unfold C.dyadic_Compare R.dyadic_Compare cD
 refine zR ?_
 refine s_call (two_bad a.neg b.neg ta tb a.l b.l a.e b.e (c + 2) ha h) wS ?_
 rintro v c1 hc1 ⟨x, y, rfl, ⟨n1, t1, l1, e1, rfl⟩, ⟨n2, t2, l2, e2, rfl⟩⟩
 refine zR ?_
 exact yE

def chkE (a b : RD) : Int := if fitE a.e ∧ fitE b.e then (if 0 < cmpD a.d b.d then 100 else 0) else 80
theorem check_spec (ta tb : Tok) (a b : RD) (c : Nat) (ha : Arg a.l) (hb : Arg b.l) : VSpec Tryz.prog F.span_check c [rsV ta tb a b] (fun r _ => r = iv (chkE a b)) := by
 refine sG hm G.span_check ?_
 unfold C.span_check R.span_check cD
 unfold chkE
 refine zR ?_
 by_cases h : fitE a.e ∧ fitE b.e
 ·refine s_call (Compare_spec ta tb a b (c + 1) ⟨ha, h.1⟩ ⟨hb, h.2⟩) wS ?_
  rintro v c1 hc1 rfl
  by_cases g : 0 < cmpD a.d b.d
  ·refine zRF (jn g h) ?_
   exact yE
  ·refine zRF (jn g h) ?_
   exact yE
 ·refine s_call (Compare_bad ta tb a b (c + 1) ha (Classical.or_iff_not_imp_left.2 fun g q => h ⟨Classical.not_not.1 g, q⟩)) wS ?_
  rintro v c1 hc1 rfl
  refine zRF h ?_
  exact yE

theorem worst_spec (e f : Int) (c : Nat) : VSpec Tryz.prog F.span_worst c [iv e, iv f] (fun r _ => r = iv (worstE e f)) := by
 refine sG hm G.span_worst ?_
 unfold C.span_worst R.span_worst cD
 by_cases g1 : e = 3
 ·have ew : worstE e f = 3 := by unfold worstE; rw [if_pos (.inl g1)]
  rw [ew]
  refine xRF g1 ?_
  exact yE
 by_cases g2 : f = 3
 ·have ew : worstE e f = 3 := by unfold worstE; rw [if_pos (.inr g2)]
  rw [ew]
  refine xRF (jn g1 g2) ?_
  exact yE
 by_cases g3 : e = 0
 ·have ew : worstE e f = f := by unfold worstE; rw [if_neg (by omega), if_neg (by omega)]
  rw [ew]
  subst g3
  refine zRF g2 ?_
  exact yE
 ·have ew : worstE e f = e := by unfold worstE; rw [if_neg (by omega), if_pos g3]
  rw [ew]
  refine xRF (jn g1 (jn g2 g3)) ?_
  exact yE
def rd0 : RD := ⟨false, [], 0⟩
theorem ends_spec (tx ty : Tok) (x y : RD) (e f : Int) (c : Nat) : VSpec Tryz.prog F.span_ends c [rdV tx x, iv e, rdV ty y, iv f] (fun r _ => r = if worstE e f = 0 then .tup [rsV tx ty x y, iv 0] else .tup [rsV .nil .nil rd0 rd0, iv (worstE e f)]) := by
 refine sG hm G.span_ends ?_
 unfold C.span_ends R.span_ends cD
 refine zR ?_
 refine s_call (worst_spec e f (c + 3)) wS ?_
 rintro v c1 hc1 rfl
 by_cases g : worstE e f = 0
 ·refine zRF g ?_
  exact yE
 ·refine zRF g ?_
  exact yE

def ansE (lo hi : Dy) : Int := worstE (tE lo) (tE hi)
def ansL (lo hi : Dy) : Dy := if ansE lo hi = 0 then lo else dy0
def ansH (lo hi : Dy) : Dy := if ansE lo hi = 0 then hi else dy0
def AnsS (c c' : Nat) (lo hi : Dy) (r : V) : Prop := ∃ t u cm, c ≤ cm ∧ cm ≤ c' ∧ r = .tup [rsV t u (RD.of (ansL lo hi)) (RD.of (ansH lo hi)), iv (ansE lo hi)] ∧ Own1 c cm t (digs 18446744073709551616 (ansL lo hi).m) ∧ Own1 cm c' u (digs 18446744073709551616 (ansH lo hi).m)
theorem AnsS.mono {a b c d : Nat} {x y : Dy} {r : V} (h : AnsS a b x y r) (h1 : c ≤ a) (h2 : b ≤ d) : AnsS c d x y r := by
 obtain ⟨t, u, cm, g1, g2, h, ht, hu⟩ := h
 exact ⟨t, u, cm, by omega, by omega, h, ht.mono h1 (Nat.le_refl _), hu.mono (Nat.le_refl _) h2⟩
theorem worst_zero {e f : Int} : worstE e f = 0 ↔ e = 0 ∧ f = 0 := by
 unfold worstE
 split
 ·constructor
  ·intro h; omega
  ·omega
 ·split
  ·constructor
   ·intro h; omega
   ·intro h; omega
  ·constructor
   ·intro h; omega
   ·intro h; omega
theorem ansE_zero {lo hi : Dy} : ansE lo hi = 0 ↔ tE lo = 0 ∧ tE hi = 0 := worst_zero
theorem ansS_of {c c1 c2 c3 : Nat} {lo hi : Dy} {t u : Tok} {r : V} (h1 : c ≤ c1) (h2 : c1 ≤ c2) (h3 : c2 ≤ c3) (ht : Own1 c c1 t (digs 18446744073709551616 (ansD lo).m)) (hu : Own1 c1 c2 u (digs 18446744073709551616 (ansD hi).m))
  (hr : r = if worstE (tE lo) (tE hi) = 0 then .tup [rsV t u (RD.of (ansD lo)) (RD.of (ansD hi)), iv 0] else .tup [rsV .nil .nil rd0 rd0, iv (worstE (tE lo) (tE hi))]) : AnsS c c3 lo hi r := by
 by_cases g : ansE lo hi = 0
 ·obtain ⟨g1, g2⟩ := ansE_zero.1 g
  have e1 : ansL lo hi = lo := if_pos g
  have e2 : ansH lo hi = hi := if_pos g
  rw [if_pos (by exact g), ansD_ok g1, ansD_ok g2] at hr
  rw [ansD_ok g1] at ht
  rw [ansD_ok g2] at hu
  refine ⟨t, u, c1, by omega, by omega, ?_, ?_, ?_⟩
  ·rw [hr, e1, e2, g]
  ·rw [e1]; exact ht
  ·rw [e2]; exact hu.mono (Nat.le_refl _) h3
 ·have e1 : ansL lo hi = dy0 := if_neg g
  have e2 : ansH lo hi = dy0 := if_neg g
  rw [if_neg (by exact g)] at hr
  refine ⟨.nil, .nil, c1, by omega, by omega, ?_, ?_, ?_⟩
  ·rw [hr, e1, e2]; rfl
  ·rw [e1]; exact .inl ⟨rfl, rfl⟩
  ·rw [e2]; exact .inl ⟨rfl, rfl⟩

theorem Scale_spec (t : Tok) (a : RD) (k : Int) (c : Nat) (ha : a.Ok) (hk : fitE k) : VSpec Tryz.prog F.dyadic_Scale c [rdV t a, iv k] (fun r c' => AnsD c c' (dyOf a.d.neg a.d.m (a.d.e + k)) r) := by
 refine sG hm G.dyadic_Scale ?_
 unfold C.dyadic_Scale R.dyadic_Scale cD
 have hn := ha.num
 have hna := hn.arg
 have hlen := hna.len
 have n1 := hn.lo
 have n2 := hn.hi
 have hk' := hk
 unfold fitE at hk'
 refine zR ?_
 refine s_call (read_spec a.neg t a.l a.e (c + 2) ha.arg ha.fit) wS ?_
 rintro v c1 hc1 ⟨tk, rfl, htk⟩
 have ed : dyOf a.neg (val 18446744073709551616 a.l) a.e = a.d := rfl
 rw [ed] at *
 refine zR ?_
 refine s_call (within_spec k (c1 + 1)) wS ?_
 rintro v c2 hc2 rfl
 refine zRF hk ?_
 refine s_call (dtold_spec a.d.neg tk (digs 18446744073709551616 a.d.m) (a.d.e + k) c2 hna.lim (by omega) (by omega) (by omega) (.inr (by rw [val_digs two64]; exact Nat.le_trans (bl_od _) hn.bits))) wS ?_
 rw [val_digs two64]
 rintro v c3 hc3 ⟨tr, rfl, htr⟩
 refine zR ?_
 exact ⟨tr, rfl, htr.mono (by omega) (by omega)⟩
theorem norm_spec' (t : Tok) (a : RD) (c : Nat) (ha : a.Ok) : VSpec Tryz.prog F.span_norm c [rdV t a] (fun r c' => AnsD c c' a.d r) := by
 refine sG hm G.span_norm ?_
 unfold C.span_norm R.span_norm cD
 refine zR ?_
 refine s_call (Scale_spec t a 0 (c + 2) ha ⟨by decide, by decide⟩) wS ?_
 rw [Int.add_zero, dyOf_id ha.num.ok]
 rintro v c1 hc1 ⟨tr, rfl, htr⟩
 refine zR ?_
 exact ⟨tr, rfl, htr.mono (by omega) (by omega)⟩
theorem normal_spec (ta tb : Tok) (a b : RD) (c : Nat) (ha : a.Ok) (hb : b.Ok) : VSpec Tryz.prog F.span_normal c [rdV ta a, rdV tb b] (fun r c' => AnsS c c' a.d b.d r) := by
 refine sG hm G.span_normal ?_
 unfold C.span_normal R.span_normal cD
 refine zR ?_
 refine s_call (norm_spec' ta a (c + 3) ha) wS ?_
 rintro v c1 hc1 ⟨t1, rfl, ht1⟩
 refine zR ?_
 refine s_call (norm_spec' tb b (c1 + 1) hb) wS ?_
 rintro v c2 hc2 ⟨t2, rfl, ht2⟩
 refine zR ?_
 refine s_call (ends_spec t1 t2 (RD.of (ansD a.d)) (RD.of (ansD b.d)) (tE a.d) (tE b.d) (c2 + 1)) wSr ?_
 rintro v c3 hc3 hv
 have hA := ansS_of (c := c) (c1 := c1) (c2 := c2) (c3 := c3) (by omega) (by omega) (by omega) (ht1.mono (by omega) (by omega)) (ht2.mono (by omega) (by omega)) hv
 obtain ⟨t, u, cm, g1, g2, rfl, gt, gu⟩ := hA
 refine zR ?_
 exact ⟨t, u, cm, by omega, by omega, rfl, gt, gu⟩

structure AnsF (c c' : Nat) (f : Int) (lo hi : Dy) (r : V) : Prop where
 bad : f ≠ 0 → r = .tup [rsV .nil .nil rd0 rd0, iv f]
 ok : f = 0 → AnsS c c' lo hi r
theorem chk_ok {a b : RD} (h : chkE a b = 0) : fitE a.e ∧ fitE b.e ∧ leD a.d b.d := by
 unfold chkE at h
 split at h
 ·rename_i g
  split at h
  ·omega
  ·exact ⟨g.1, g.2, by unfold leD; omega⟩
 ·omega

theorem digs32_len {n : Nat} (h : bl n ≤ 68719476736) : (digs 4294967296 n).length ≤ 2147483648 := by
 have h1 : ∀ k, bl n ≤ 32 * k → (digs 4294967296 n).length ≤ k := fun k hk => digs_len (by decide) (by rw [pow32]; exact lt_of_bl hk)
 exact h1 2147483648 (by omega)
theorem val_getD {b : Nat} (hb : 0 < b) : ∀ (l : List Nat) (i : Nat), Lim b l → l.getD i 0 = val b l / b ^ i % b
 | [], i, _ => by simp [val]
 | x :: l, 0, h => by
  have := h.head
  simp [val, Nat.add_mul_mod_self_left, Nat.mod_eq_of_lt this]
 | x :: l, i + 1, h => by
  have hx := h.head
  have ih := val_getD hb l i h.tail
  rw [List.getD_cons_succ, ih, val_cons, Nat.pow_succ, Nat.mul_comm (b ^ i) b, ← Nat.div_div_eq_div_mul, Nat.add_mul_div_left _ _ hb, Nat.div_eq_of_lt hx, Nat.zero_add]
theorem digs_getD {b : Nat} (hb : 2 ≤ b) (n i : Nat) : (digs b n).getD i 0 = n / b ^ i % b := by
 rw [val_getD (by omega) _ _ (lim_digs hb n), val_digs hb]
theorem bit_digit {n i : Nat} : n / 4294967296 ^ (i / 32) % 4294967296 / 2 ^ (i % 32) % 2 = n / 2 ^ i % 2 := by
 have e : n / 2 ^ i = n / 4294967296 ^ (i / 32) / 2 ^ (i % 32) := by
  rw [Nat.div_div_eq_div_mul, pow32, ← Nat.pow_add, Nat.div_add_mod]
 rw [e]
 generalize n / 4294967296 ^ (i / 32) = x
 have h1 := Nat.testBit_mod_two_pow x 32 (i % 32)
 rw [Nat.testBit_eq_decide_div_mod_eq, Nat.testBit_eq_decide_div_mod_eq] at h1
 have h2 : decide (i % 32 < 32) = true := decide_eq_true (by omega)
 rw [h2, Bool.true_and, decide_eq_decide] at h1
 have h3 : x % 2 ^ 32 = x % 4294967296 := by rfl
 rw [h3] at h1
 omega

theorem bitR (t : Tok) (n i c : Nat) (hn : (digs 4294967296 n).length ≤ 4398046511104) (hi : i ≤ 1099511627776) : VSpec Tryz.prog F.r01Num_Bit c [nats t (digs 4294967296 n), iv (i : Int)] (fun r _ => r = iv ((n / 2 ^ i % 2 : Nat) : Int)) := by
 refine sG hm G.r01Num_Bit ?_
 unfold C.r01Num_Bit R.r01Num_Bit cD
 have d1 : (i : Int) / 32 = ((i / 32 : Nat) : Int) := by omega
 have d2 : (i : Int) % 32 = ((i % 32 : Nat) : Int) := by omega
 have g1 : ¬ (i : Int) < 0 := by omega
 by_cases g2 : ((digs 4294967296 n).length : Int) ≤ ((i / 32 : Nat) : Int)
 ·have e0 : n / 2 ^ i = 0 := by
   have h := val_lt (lim_digs (b := 4294967296) (by decide) n)
   rw [val_digs (by decide), pow32] at h
   exact Nat.div_eq_of_lt (Nat.lt_of_lt_of_le h (Nat.pow_le_pow_right (by decide) (by omega)))
  refine xRF (jn g1 (jn d1 g2)) ?_
  rw [e0]
  exact yE
 ·have e1 := digs_getD (b := 4294967296) (by decide) n (i / 32)
  have e2 := bit_digit (n := n) (i := i)
  have e3 : min (i % 32) 64 = i % 32 := by omega
  refine xRF (jn g1 (jn d1 (jn d2 (jn g2 (jn e1 (jn e3 (jn @u_and1 e2))))))) ?_
  exact yE

theorem tz_bit {n i : Nat} (hn : n ≠ 0) (hi : i ≤ tz n) : n / 2 ^ i % 2 = 0 ↔ i < tz n := by
 obtain ⟨h1, h2⟩ := tz_od hn
 obtain ⟨k, hk⟩ := Nat.exists_eq_add_of_le hi
 have e : n / 2 ^ i = 2 ^ k * od n := by
  rw [hk, Nat.pow_add, Nat.mul_assoc] at h1
  conv => lhs; rw [h1]
  rw [Nat.mul_div_cancel_left _ (Nat.two_pow_pos i)]
 rw [e]
 cases k with
 | zero => simp; omega
 | succ k =>
  rw [Nat.pow_succ, Nat.mul_comm (2 ^ k) 2, Nat.mul_assoc, Nat.mul_mod_right]
  constructor
  ·intro _; omega
  ·intro _; rfl
theorem tailR (t : Tok) (n c : Nat) (hn : bl n ≤ 68719476736) : VSpec Tryz.prog F.r01Num_Tail c [nats t (digs 4294967296 n)] (fun r _ => r = iv (tz n : Nat)) := by
 refine sG hm G.r01Num_Tail ?_
 unfold C.r01Num_Tail R.r01Num_Tail cD
 have hl := digs32_len (n := n) hn
 by_cases g : n = 0
 ·subst g
  have e0 : (((digs 4294967296 0).length : Nat) : Int) = 0 := rfl
  refine xRF e0 ?_
  rw [tz_zero]
  exact yE
 ·have hne : ¬ (((digs 4294967296 n).length : Nat) : Int) = 0 := by
   intro h
   exact g ((digs_eq_nil (b := 4294967296) (by decide)).1 (List.eq_nil_of_length_eq_zero (by omega)))
  have htz : tz n ≤ 68719476736 := Nat.le_trans (tz_le_bl n) hn
  refine xRF hne ?_
  refine v_loop (fun S => S.ρ 3 = iv (tz n : Nat) ∧ S.σ = noBlk ∧ c ≤ S.c) ?_ ?_
  ·refine vwp_loop (fun k S => ∃ i, k = tz n - i ∧ i ≤ tz n ∧ S.ρ 0 = nats t (digs 4294967296 n) ∧ S.ρ 3 = iv (i : Nat) ∧ S.σ = noBlk ∧ c ≤ S.c) (tz n) ?_ ?_
   ·refine ⟨0, by omega, by omega, ?_⟩
    refine xS ?_
    exact yA
   rintro k ⟨ρ, σ, c3⟩ ⟨i, hk, hi, h0, h3, hσ, hc3⟩
   dsimp only at h0 h3 hσ hc3
   subst hσ
   have hb := tz_bit g hi
   refine xRF (jn h0 h3) ?_
   refine s_call (bitR t n i c3 (by omega) (by omega)) (yMF (jn h0 h3)) ?_
   rintro v c4 hc4 rfl
   by_cases g2 : i < tz n
   ·have e0 : ((n / 2 ^ i % 2 : Nat) : Int) = 0 := by rw [hb.2 g2]; rfl
    refine xRF (jn h0 (jn h3 e0)) ?_
    refine ⟨tz n - (i + 1), by omega, i + 1, ?_⟩
    exact yA
   ·have e0 : ¬ ((n / 2 ^ i % 2 : Nat) : Int) = 0 := by intro h; exact g2 (hb.1 (by omega))
    have ei : i = tz n := by omega
    refine xRF (jn h0 (jn h3 e0)) ?_
    rw [← ei]
    exact yA
  rintro ⟨ρ3, σ, c5⟩ ⟨h3, hσ, hc5⟩
  dsimp only at h3 hσ hc5
  subst hσ
  refine xRF h3 ?_
  exact yE

theorem shr_digit {X s : Nat} (hs : s < 32) {u v : Nat} (hu : u = X % 4294967296) (hv : v = X / 4294967296 % 4294967296) : (u + v * 4294967296) / 2 ^ s % 4294967296 = X / 2 ^ s % 4294967296 := by
 have e : u + v * 4294967296 = X % 2 ^ 64 := by
  rw [hu, hv]
  have : (2 : Nat) ^ 64 = 4294967296 * 4294967296 := by decide
  rw [this, Nat.mod_mul]
  omega
 rw [e]
 have h1 : X % 2 ^ 64 / 2 ^ s % 2 ^ 32 = X / 2 ^ s % 2 ^ 32 := by
  apply Nat.eq_of_testBit_eq
  intro i
  simp only [Nat.testBit_mod_two_pow, Nat.testBit_div_two_pow]
  by_cases g : i < 32
  ·have : i + s < 64 := by omega
   simp [g, this]
  ·simp [g]
 exact h1
theorem shrT (t : Tok) (n k c : Nat) (hn : bl n ≤ 68719476736) (hk : k ≤ 1099511627776) : VSpec Tryz.prog F.r01Shr c [nats t (digs 4294967296 n), iv (k : Int)] (fun r c' => ∃ tk, r = nats tk (digs 4294967296 (n / 2 ^ k)) ∧ Tk c c' tk) := by
 refine sG hm G.r01Shr ?_
 unfold C.r01Shr R.r01Shr cD
 have hl := digs32_len (n := n) hn
 have d1 : (k : Int) / 32 = ((k / 32 : Nat) : Int) := by omega
 have d2 : (k : Int) % 32 = ((k % 32 : Nat) : Int) := by omega
 have hdg := digs_getD (b := 4294967296) (by decide) n
 have hlt := val_lt (lim_digs (b := 4294967296) (by decide) n)
 rw [val_digs (by decide)] at hlt
 generalize digs 4294967296 n = x at *
 obtain ⟨q, hq⟩ : ∃ q, q = k / 32 := ⟨_, rfl⟩
 obtain ⟨s, hs⟩ : ∃ s, s = k % 32 := ⟨_, rfl⟩
 have eY : n / 2 ^ k = n / 4294967296 ^ q / 2 ^ s := by
  rw [Nat.div_div_eq_div_mul, pow32, ← Nat.pow_add, hq, hs, Nat.div_add_mod]
 rw [← hq] at d1
 rw [← hs] at d2
 by_cases g0 : (x.length : Int) ≤ (q : Int)
 ·refine xRF (jn d1 (jn d2 g0)) ?_
  have e0 : n / 4294967296 ^ q = 0 := Nat.div_eq_of_lt (Nat.lt_of_lt_of_le hlt (Nat.pow_le_pow_right (by decide) (by omega)))
  rw [eY, e0, Nat.zero_div]
  exact ⟨.nil, rfl, .inl rfl⟩
 obtain ⟨m, hm⟩ : ∃ m, m = x.length - q := ⟨_, rfl⟩
 have hm2 : (x.length : Int) - (q : Int) = (m : Int) := by omega
 obtain ⟨Y, hY⟩ : ∃ Y, Y = n / 2 ^ k := ⟨_, rfl⟩
 have hYlt : Y < 4294967296 ^ m := by
  rw [hY, eY]
  refine Nat.lt_of_le_of_lt (Nat.div_le_self _ _) ?_
  rw [Nat.div_lt_iff_lt_mul (Nat.pow_pos (by decide)), ← Nat.pow_add]
  rw [show m + q = x.length by omega]
  exact hlt
 refine xRF (jn d1 (jn d2 (jn g0 hm2))) ?_
 refine s_mk (n := m) (m := m) yS yS (Nat.le_refl _) (by omega) ?_
 refine xRF (jn d1 d2) ?_
 refine v_loop (fun S => ∃ w, w.length = m ∧ Lim 4294967296 w ∧ val 4294967296 w = Y ∧ S.ρ 5 = .buf c 0 m (some m) 1 ∧ S.σ = supd noBlk c (nblk w) ∧ c + 1 ≤ S.c) ?_ ?_
 ·refine vwp_loop (fun r S => ∃ i w, r = m - i ∧ i ≤ m ∧ w.length = i ∧ Lim 4294967296 w ∧ val 4294967296 w = Y % 4294967296 ^ i ∧ S.ρ 0 = nats t x ∧ S.ρ 1 = iv k ∧ S.ρ 6 = iv s ∧ S.ρ 23 = iv m ∧ S.ρ 24 = iv i ∧ S.ρ 5 = .buf c 0 m (some m) 1 ∧ S.σ = supd noBlk c (nblk (w ++ List.replicate (m - i) 0)) ∧ c + 1 ≤ S.c) m ?_ ?_
  ·refine ⟨0, [], by omega, by omega, ?_⟩
   refine xS ?_
   (repeat' apply And.intro) <;> first | rfl | omega | assumption | exact Lim.nil | (simp [val, Nat.mod_one]; done)
  rintro r ⟨ρ2, σ, c4⟩ ⟨i, w, hr, hi, hw, hlw, hinv, h0, h1, h6, h23, h24, h5, hσ, hc4⟩
  dsimp only at h0 h1 h6 h23 h24 h5 hσ hc4
  subst hσ
  by_cases g : (i : Int) < m
  ·have e0 : (i : Int) + (q : Int) = ((i + q : Nat) : Int) := by omega
   have e1 : ((i + q : Nat) : Int).toNat = i + q := by omega
   have e1b : i + q < x.length := by omega
   have e2 : ((i + q : Nat) : Int) + 1 = ((i + q + 1 : Nat) : Int) := by omega
   have e3 : min s 64 = s := by omega
   have hxi : x.getD (i + q) 0 < 4294967296 := by rw [hdg]; exact Nat.mod_lt _ (by decide)
   have hxj : x.getD (i + q + 1) 0 < 4294967296 := by rw [hdg]; exact Nat.mod_lt _ (by decide)
   have m1 : x.getD (i + q + 1) 0 * 4294967296 % 18446744073709551616 = x.getD (i + q + 1) 0 * 4294967296 := by omega
   have m2 : (x.getD (i + q) 0 + x.getD (i + q + 1) 0 * 4294967296) % 18446744073709551616 = x.getD (i + q) 0 + x.getD (i + q + 1) 0 * 4294967296 := by omega
   have m3 : (x.getD (i + q) 0 + x.getD (i + q + 1) 0 * 4294967296) / 2 ^ s % 4294967296 = Y / 4294967296 ^ i % 4294967296 := by
    rw [shr_digit (X := n / 4294967296 ^ (i + q)) (by omega) (hdg _) (by rw [hdg, Nat.pow_succ, Nat.div_div_eq_div_mul])]
    congr 1
    rw [hY, eY, Nat.div_div_eq_div_mul, Nat.div_div_eq_div_mul, Nat.div_div_eq_div_mul]
    congr 1
    rw [Nat.pow_add, Nat.mul_assoc, Nat.mul_comm (4294967296 ^ i), Nat.mul_assoc]
   have hlen : (w ++ List.replicate (m - i) 0).length = m := by simp; omega
   have hset : ∀ v, (w ++ List.replicate (m - i) 0).set i v = (w ++ [v]) ++ List.replicate (m - (i + 1)) 0 := fun v => by
    have := set_fill w (m - (i + 1)) v
    rw [hw] at this
    rw [show m - i = m - (i + 1) + 1 by omega, this]
   have key : val 4294967296 (w ++ [Y / 4294967296 ^ i % 4294967296]) = Y % 4294967296 ^ (i + 1) := by
    rw [val_append, hw, hinv, val, val, Nat.mul_zero, Nat.add_zero, Nat.mod_pow_succ]
   refine xRF (jn h0 (jn h1 (jn h6 (jn h23 (jn h24 (jn h5 (jn g (jn d1 (jn d2 (jn e0 (jn e1 (jn e1b e2)))))))))))) ?_
   refine s_call (at_spec t x (i + q + 1) c4 (by omega)) (yMF h0) ?_
   rintro v c5 hc5 rfl
   refine xRF (jn h0 (jn h1 (jn h6 (jn h23 (jn h24 (jn h5 (jn e2 (jn e3 (jn m1 (jn m2 (jn hlen hset))))))))))) ?_
   rw [m3]
   refine ⟨m - (i + 1), by omega, i + 1, w ++ [Y / 4294967296 ^ i % 4294967296], ?_⟩
   (repeat' apply And.intro) <;> first | rfl | exact key | exact lim_snoc hlw (Nat.mod_lt _ (by decide)) | (simp [hw]; done) | omega | assumption
  ·have hi' : i = m := by omega
   subst hi'
   refine xRF (jn h0 (jn h1 (jn h6 (jn h23 (jn h24 (jn h5 g)))))) ?_
   refine ⟨w, ?_⟩
   have e0 : w ++ List.replicate (i - i) 0 = w := by simp
   rw [e0]
   have hv : val 4294967296 w = Y := by rw [hinv, Nat.mod_eq_of_lt hYlt]
   (repeat' apply And.intro) <;> first | rfl | omega | assumption | exact hv
 rintro ⟨ρ3, σ, c5⟩ ⟨w, hw, hlw, hvw, h5, hσ, hc5⟩
 dsimp only at h5 hσ hc5
 subst hσ
 refine v_freeze 5 (t := c) (off := 0) (n := m) (cap := some m) (l := w) (ySF h5) yS (by omega) (by omega) ?_
 rw [List.drop_zero, show w.take m = w from List.take_of_length_le (by omega)]
 refine xR ?_
 refine s_call (norm32_spec (.id c) w c5 hlw (by omega)) yM ?_
 rintro v c6 hc6 rfl
 rw [hvw]
 refine xR ?_
 rw [← hY]
 exact ⟨_, rfl, .inr ⟨c, rfl, by omega, by omega⟩⟩

abbrev zV (t : Tok) (neg : Bool) (n : Nat) : V := .agg [bv neg, nats t (digs 4294967296 n)]
abbrev fV (t : Tok) (d : Dy) : V := .agg [bv d.neg, nats t (digs 4294967296 d.m), iv d.e]
def zneg (neg : Bool) (n : Nat) : Bool := neg && !decide (n = 0)
theorem lenOk {n : Nat} (h : bl n ≤ 68719476736) : (digs 4294967296 n).length ≤ 4398046511104 := Nat.le_trans (digs32_len h) (by decide)

theorem make1_spec (neg : Bool) (t : Tok) (n c : Nat) (hn : bl n ≤ 68719476736) : VSpec Tryz.prog F.r06make1 c [bv neg, nats t (digs 4294967296 n)] (fun r _ => r = zV t (zneg neg n) n) := by
 refine sG hm G.r06make1 ?_
 unfold C.r06make1 R.r06make1 cD
 have hl := lenOk hn
 cases neg
 ·refine zR ?_
  exact yE
 ·refine zR ?_
  refine s_call (zero_spec t n (c + 1) hl) wS ?_
  rintro v c1 hc1 rfl
  refine zR ?_
  exact yE
theorem of06_spec (neg : Bool) (t : Tok) (l : List Nat) (c : Nat) (hl : Arg l) : VSpec Tryz.prog F.r06Of c [bv neg, nats t l] (fun r _ => ∃ tk, r = zV tk (zneg neg (val 18446744073709551616 l)) (val 18446744073709551616 l)) := by
 refine sG hm G.r06Of ?_
 unfold C.r06Of R.r06Of cD
 have h1 := hl.len
 have h2 := hl.bl
 refine zR ?_
 refine s_call (of_spec t l (c + 1) hl.lim (by omega)) wS ?_
 rintro v c1 hc1 ⟨i, rfl, _, _⟩
 refine zR ?_
 refine s_call (make1_spec neg (.id i) (val 18446744073709551616 l) c1 (by omega)) wS ?_
 rintro v c2 hc2 rfl
 refine zR ?_
 exact ⟨_, rfl⟩
theorem zsign_spec (neg : Bool) (t : Tok) (n c : Nat) (hn : bl n ≤ 68719476736) (hz : n = 0 → neg = false) : VSpec Tryz.prog F.r06Z_Sign c [zV t neg n] (fun r _ => r = iv (sgW neg n)) := by
 refine sG hm G.r06Z_Sign ?_
 unfold C.r06Z_Sign R.r06Z_Sign cD
 have hl := lenOk hn
 cases neg
 ·refine zR ?_
  refine s_call (zero_spec t n (c + 1) hl) wS ?_
  rintro v c1 hc1 rfl
  by_cases g : n = 0
  ·have e : sgW false n = 0 := if_pos g
   rw [e]
   refine zRF g ?_
   exact yE
  ·have e : sgW false n = 1 := by unfold sgW; rw [if_neg g]; rfl
   rw [e]
   refine zRF g ?_
   exact yE
 ·have g : n ≠ 0 := fun h => by cases hz h
  have e : sgW true n = -1 := by unfold sgW; rw [if_neg g]; rfl
  rw [e]
  refine zR ?_
  exact yE
theorem of08T (neg : Bool) (t : Tok) (n : Nat) (e : Int) (c : Nat) (hn : bl n ≤ 68719476736) (hz : n = 0 → neg = false) (he1 : -4611686018427387904 ≤ e) (he2 : e ≤ 4611686018427387904) :
  VSpec Tryz.prog F.r08Of c [zV t neg n, iv e] (fun r c' => ∃ tk, r = fV tk (dyOf neg n e) ∧ Tk c c' tk) := by
 refine sG hm G.r08Of ?_
 unfold C.r08Of R.r08Of cD
 refine zR ?_
 refine s_call (zsign_spec neg t n (c + 2) hn hz) wS ?_
 rintro v c1 hc1 rfl
 by_cases g : n = 0
 ·have e0 : sgW neg n = 0 := by unfold sgW; rw [if_pos g]
  have ed : dyOf neg n e = dy0 := by unfold dyOf; rw [if_pos g]
  rw [ed]
  refine zRF e0 ?_
  exact ⟨.nil, rfl, .inl rfl⟩
 ·have e0 : ¬ sgW neg n = 0 := by unfold sgW; rw [if_neg g]; split <;> decide
  have ed : dyOf neg n e = ⟨neg, od n, e + (tz n : Int)⟩ := by unfold dyOf; rw [if_neg g]
  have htz : tz n ≤ 68719476736 := Nat.le_trans (tz_le_bl n) hn
  rw [ed]
  refine zRF e0 ?_
  refine s_call (tailR t n c1 hn) wS ?_
  rintro v c2 hc2 rfl
  refine zR ?_
  refine s_call (shrT t n (tz n) c2 hn (by omega)) wS ?_
  rintro v c3 hc3 ⟨tk, rfl, htk⟩
  refine zR ?_
  exact ⟨tk, rfl, htk.mono (by omega) (by omega)⟩
theorem of08_spec (neg : Bool) (t : Tok) (n : Nat) (e : Int) (c : Nat) (hn : bl n ≤ 68719476736) (hz : n = 0 → neg = false) (he1 : -4611686018427387904 ≤ e) (he2 : e ≤ 4611686018427387904) :
  VSpec Tryz.prog F.r08Of c [zV t neg n, iv e] (fun r _ => ∃ tk, r = fV tk (dyOf neg n e)) := (of08T neg t n e c hn hz he1 he2).mono fun r c' ⟨tk, h, _⟩ => ⟨tk, h⟩
theorem fits_spec' (e : Int) (c : Nat) : VSpec Tryz.prog F.r08Fits c [iv e] (fun r _ => r = bv (decide (fitE e))) := by
 refine sG hm G.r08Fits ?_
 unfold C.r08Fits R.r08Fits cD
 by_cases g1 : -1099511627776 ≤ e
 ·by_cases g2 : e ≤ 1099511627776
  ·have g : fitE e := ⟨g1, g2⟩
   refine xRF (jn g1 (jn g2 g)) ?_
   omega
  ·have g : ¬ fitE e := fun h => g2 h.2
   refine xRF (jn g1 (jn g2 g)) ?_
   omega
 ·have g : ¬ fitE e := fun h => g1 h.1
  refine xRF (jn g1 g) ?_
  omega

structure RNum (d : Dy) : Prop where
 ok : d.Ok
 bits : bl d.m ≤ 68719476736
 lo : -2305843009213693952 ≤ d.e
 hi : d.e ≤ 2305843009213693952
theorem Num.r {d : Dy} (h : Num d) : RNum d := ⟨h.ok, by have := h.bits; omega, by have := h.lo; omega, by have := h.hi; omega⟩
theorem RNum.nz {d : Dy} (h : RNum d) : d.m = 0 → d.neg = false := fun g => by rw [h.ok.zero g]; rfl

theorem rtop_spec (t : Tok) (x : Dy) (c : Nat) (hx : RNum x) : VSpec Tryz.prog F.r08D_Top c [fV t x] (fun r _ => r = iv x.top) := by
 refine sG hm G.r08D_Top ?_
 unfold C.r08D_Top R.r08D_Top cD
 have h1 := hx.lo
 have h2 := hx.hi
 have h3 := hx.bits
 refine zR ?_
 refine s_call (len_spec t x.m (c + 1) (lenOk h3)) wS ?_
 rintro v c1 hc1 rfl
 have et : x.top = (bl x.m : Int) - 1 + x.e := by unfold Dy.top; omega
 rw [et]
 refine zR ?_
 exact yE
abbrev fsV (t u : Tok) (a b : Dy) : V := .agg [bv a.neg, nats t (digs 4294967296 a.m), iv a.e, bv b.neg, nats u (digs 4294967296 b.m), iv b.e]

theorem cmp06_spec (t u : Tok) (neg : Bool) (m n c : Nat) (hmb : bl m ≤ 68719476736) (hn : bl n ≤ 68719476736) : VSpec Tryz.prog F.r06Cmp c [zV t neg m, zV u neg n] (fun r _ => r = iv (if neg = true then - cmpI m n else cmpI m n)) := by
 refine sG hm G.r06Cmp ?_
 unfold C.r06Cmp R.r06Cmp cD
 have h3 := cmpI_cases m n
 cases neg
 ·refine zR ?_
  refine s_call (cmpR t u m n (c + 1 + 1) hmb hn) wS ?_
  rintro v c1 hc1 rfl
  refine zR ?_
  exact yE
 ·refine zR ?_
  refine s_call (cmpR t u m n (c + 1 + 1) hmb hn) wS ?_
  rintro v c1 hc1 rfl
  generalize cmpI m n = q at *
  refine zRF @n_neg' ?_
  exact yE
theorem shift06_spec (t : Tok) (neg : Bool) (m k c : Nat) (hmb : bl m ≤ 68719476736) (hmz : m ≠ 0) (hk : k ≤ 1099511627776) (hb : bl (m * 2 ^ k) ≤ 68719476736) : VSpec Tryz.prog F.r06Shift c [zV t neg m, iv (k : Int)] (fun r _ => ∃ tk, r = zV tk neg (m * 2 ^ k)) := by
 refine sG hm G.r06Shift ?_
 unfold C.r06Shift R.r06Shift cD
 have g : (0 : Int) ≤ (k : Int) := by omega
 refine zRF g ?_
 refine s_call (shlR t m k (c + 2) hmb (Nat.pos_of_ne_zero hmz) hk) wS ?_
 rintro v c1 hc1 ⟨i, rfl, _, _⟩
 refine zR ?_
 refine s_call (make1_spec neg (.id i) (m * 2 ^ k) c1 hb) wS ?_
 rintro v c2 hc2 rfl
 have e : zneg neg (m * 2 ^ k) = neg := by
  unfold zneg
  have : ¬ m * 2 ^ k = 0 := Nat.mul_ne_zero hmz (Nat.ne_of_gt (Nat.two_pow_pos k))
  rw [decide_eq_false this]
  simp
 rw [e]
 refine zR ?_
 exact ⟨_, rfl⟩

theorem rcmp_spec (tx ty : Tok) (x y : Dy) (c : Nat) (hx : RNum x) (hy : RNum y) : VSpec Tryz.prog F.r08Cmp c [fV tx x, fV ty y] (fun r _ => r = iv (cmpD x y)) := by
 refine sG hm G.r08Cmp ?_
 unfold C.r08Cmp R.r08Cmp cD
 have x1 := hx.lo
 have x2 := hx.hi
 have y1 := hy.lo
 have y2 := hy.hi
 have bx2 := hx.bits
 have by2 := hy.bits
 refine zR ?_
 refine s_call (zsign_spec x.neg tx x.m (c + 1 + 1) hx.bits hx.nz) wS ?_
 rintro v c1 hc1 rfl
 refine zR ?_
 refine s_call (zsign_spec y.neg ty y.m c1 hy.bits hy.nz) wS ?_
 rintro v c2 hc2 rfl
 rw [sgW_dy, sgW_dy]
 by_cases g0 : x.sg = y.sg
 ·by_cases g3 : x.sg = 0
  ·have ec : cmpD x y = 0 := by unfold cmpD; rw [if_neg (by omega), if_neg (by omega), if_pos g3]
   rw [ec]
   have g4 : y.sg = 0 := by omega
   refine zRF (jn g3 g4) ?_
   exact yE
  have ec : cmpD x y = if x.top < y.top then -x.sg else if y.top < x.top then x.sg else x.sg * cmpI (x.m * 2 ^ (x.e - y.e).toNat) (y.m * 2 ^ (y.e - x.e).toNat) := by
   unfold cmpD; rw [if_neg (by omega), if_neg (by omega), if_neg g3]
  have hxm : x.m ≠ 0 := fun e => g3 (by unfold Dy.sg; rw [if_pos e])
  have hym : y.m ≠ 0 := fun e => by
   have : y.sg = 0 := by unfold Dy.sg; rw [if_pos e]
   omega
  have hsx := sg_sign hxm
  have hsy := sg_sign hym
  have hneg : y.neg = x.neg := by
   rw [hsx, hsy] at g0
   cases hx0 : x.neg <;> cases hy0 : y.neg <;> simp [hx0, hy0] at g0 ⊢
  have hs : x.sg = 1 ∨ x.sg = -1 := by rcases sg_cases x with ⟨_, h⟩ | ⟨_, _, h⟩ | ⟨_, _, h⟩ <;> omega
  have bx := bl_pos (Nat.pos_of_ne_zero hxm)
  have by' := bl_pos (Nat.pos_of_ne_zero hym)
  generalize cmpD x y = R at *
  rw [← g0]
  generalize hsv : x.sg = s at *
  refine zRF g3 ?_
  refine s_call (rtop_spec tx x c2 hx) wS ?_
  rintro v c3 hc3 rfl
  refine zR ?_
  refine s_call (rtop_spec ty y c3 hy) wS ?_
  rintro v c4 hc4 rfl
  by_cases g4 : x.top = y.top
  ·have e4 : x.e + (bl x.m : Int) = y.e + (bl y.m : Int) := by unfold Dy.top at g4; omega
   rw [if_neg (by omega), if_neg (by omega)] at ec
   by_cases g5 : x.e ≤ y.e
   ·obtain ⟨k, hk⟩ : ∃ k : Nat, y.e - x.e = (k : Int) := ⟨(y.e - x.e).toNat, by omega⟩
    rw [show (x.e - y.e).toNat = 0 by omega, show (y.e - x.e).toNat = k by omega, Nat.pow_zero, Nat.mul_one, hsx] at ec
    refine zRF (jn g4 (jn g5 hk)) ?_
    refine s_call (shift06_spec ty y.neg y.m k c4 hy.bits hym (by omega) (by rw [bl_shl hym]; omega)) wS ?_
    rintro v c5 hc5 ⟨t5, rfl⟩
    rw [hneg]
    refine zR ?_
    refine s_call (cmp06_spec tx t5 x.neg x.m (y.m * 2 ^ k) c5 hx.bits (by rw [bl_shl hym]; omega)) wS ?_
    rintro v c6 hc6 rfl
    have ec2 : R = if x.neg = true then - cmpI x.m (y.m * 2 ^ k) else cmpI x.m (y.m * 2 ^ k) := by rw [ec]; split <;> omega
    rw [← ec2]
    refine zR ?_
    exact yE
   ·obtain ⟨k, hk⟩ : ∃ k : Nat, x.e - y.e = (k : Int) := ⟨(x.e - y.e).toNat, by omega⟩
    rw [show (x.e - y.e).toNat = k by omega, show (y.e - x.e).toNat = 0 by omega, Nat.pow_zero, Nat.mul_one, hsx] at ec
    refine zRF (jn g4 (jn g5 hk)) ?_
    refine s_call (shift06_spec tx x.neg x.m k c4 hx.bits hxm (by omega) (by rw [bl_shl hxm]; omega)) wS ?_
    rintro v c5 hc5 ⟨t5, rfl⟩
    refine zRF hneg ?_
    refine s_call (cmp06_spec t5 ty x.neg (x.m * 2 ^ k) y.m c5 (by rw [bl_shl hxm]; omega) hy.bits) (wSF hneg) ?_
    rintro v c6 hc6 rfl
    have ec2 : R = if x.neg = true then - cmpI (x.m * 2 ^ k) y.m else cmpI (x.m * 2 ^ k) y.m := by rw [ec]; split <;> omega
    rw [← ec2]
    refine zR ?_
    exact yE
  ·refine zRF g4 ?_
   refine s_call (rtop_spec tx x c4 hx) wS ?_
   rintro v c5 hc5 rfl
   refine zR ?_
   refine s_call (rtop_spec ty y c5 hy) wS ?_
   rintro v c6 hc6 rfl
   by_cases g5 : x.top < y.top
   ·rw [if_pos g5] at ec
    refine zRF (jn g4 (jn g5 @n_neg')) ?_
    rw [ec]
   ·rw [if_neg g5, if_pos (by omega)] at ec
    refine zRF (jn g4 g5) ?_
    rw [ec]
 ·by_cases g1 : x.sg < y.sg
  ·have ec : cmpD x y = -1 := by unfold cmpD; rw [if_pos g1]
   rw [ec]
   refine zRF (jn g0 g1) ?_
   exact yE
  ·have ec : cmpD x y = 1 := by unfold cmpD; rw [if_neg g1, if_pos (by omega)]
   rw [ec]
   refine zRF (jn g0 g1) ?_
   exact yE

theorem dyOf_zneg (neg : Bool) (n : Nat) (e : Int) : dyOf (zneg neg n) n e = dyOf neg n e := by
 unfold dyOf zneg
 by_cases g : n = 0
 ·rw [if_pos g, if_pos g]
 ·rw [if_neg g, if_neg g, decide_eq_false g]
  simp
theorem zneg_zero {neg : Bool} {n : Nat} (h : n = 0) : zneg neg n = false := by unfold zneg; rw [decide_eq_true h]; simp
theorem dyadT (t : Tok) (a : RD) (c : Nat) (ha : a.Ok) : VSpec Tryz.prog F.l10dyad c [rdV t a] (fun r c' => ∃ tk, r = fV tk a.d ∧ Tk c c' tk) := by
 refine sG hm G.l10dyad ?_
 unfold C.l10dyad R.l10dyad cD
 have hb := ha.arg.bl
 have he := ha.fit
 unfold fitE at he
 refine zR ?_
 refine s_call (of06_spec a.neg t a.l (c + 1 + 1) ha.arg) wS ?_
 rintro v c1 hc1 ⟨tk, rfl⟩
 refine zR ?_
 refine s_call (of08T (zneg a.neg (val 18446744073709551616 a.l)) tk (val 18446744073709551616 a.l) a.e c1 (by omega) zneg_zero (by omega) (by omega)) wS ?_
 rw [dyOf_zneg]
 rintro v c2 hc2 ⟨tk2, rfl, htk⟩
 refine zR ?_
 exact ⟨tk2, rfl, htk.mono (by omega) (by omega)⟩
def okL (f : Int) (d : Dy) : Dy := if f = 0 then d else dy0
theorem ofST (t u : Tok) (a b : RD) (c : Nat) (ha : Arg a.l) (hb : Arg b.l) : VSpec Tryz.prog F.l10of c [rsV t u a b] (fun r c' => ∃ tk uk, r = .tup [fsV tk uk (okL (chkE a b) a.d) (okL (chkE a b) b.d), iv (chkE a b)] ∧ Tk c c' tk ∧ Tk c c' uk) := by
 refine sG hm G.l10of ?_
 unfold C.l10of R.l10of cD
 refine zR ?_
 refine s_call (fits_spec' a.e (c + 1 + 1)) wS ?_
 rintro v c1 hc1 rfl
 by_cases h1 : fitE a.e
 ·refine zRF h1 ?_
  refine s_call (fits_spec' b.e c1) wS ?_
  rintro v c2 hc2 rfl
  by_cases h2 : fitE b.e
  ·have oa : a.Ok := ⟨ha, h1⟩
   have ob : b.Ok := ⟨hb, h2⟩
   have e1 : chkE a b = if 0 < cmpD a.d b.d then 100 else 0 := by unfold chkE; rw [if_pos ⟨h1, h2⟩]
   refine zRF (jn h1 h2) ?_
   refine s_call (dyadT t a c2 oa) wS ?_
   rintro v c3 hc3 ⟨tk, rfl, htk⟩
   refine zRF (jn h1 h2) ?_
   refine s_call (dyadT u b c3 ob) wS ?_
   rintro v c4 hc4 ⟨uk, rfl, huk⟩
   refine zRF (jn h1 (jn h2 @nb_app)) ?_
   refine s_call (rcmp_spec tk uk a.d b.d (c4 + 1) oa.num.r ob.num.r) wS ?_
   rintro v c5 hc5 rfl
   by_cases g : 0 < cmpD a.d b.d
   ·rw [if_pos g] at e1
    rw [e1]
    refine zRF g ?_
    exact ⟨.nil, .nil, rfl, .inl rfl, .inl rfl⟩
   ·rw [if_neg g] at e1
    rw [e1]
    refine zRF g ?_
    exact ⟨tk, uk, rfl, htk.mono (by omega) (by omega), huk.mono (by omega) (by omega)⟩
  ·have e1 : chkE a b = 80 := by unfold chkE; rw [if_neg fun h => h2 h.2]
   rw [e1]
   refine zRF (jn h1 h2) ?_
   exact ⟨.nil, .nil, rfl, .inl rfl, .inl rfl⟩
 ·have e1 : chkE a b = 80 := by unfold chkE; rw [if_neg fun h => h1 h.1]
  rw [e1]
  refine zRF h1 ?_
  exact ⟨.nil, .nil, rfl, .inl rfl, .inl rfl⟩
theorem ofS_spec (t u : Tok) (a b : RD) (c : Nat) (ha : Arg a.l) (hb : Arg b.l) : VSpec Tryz.prog F.l10of c [rsV t u a b] (fun r _ => ∃ tk uk, r = .tup [fsV tk uk (okL (chkE a b) a.d) (okL (chkE a b) b.d), iv (chkE a b)]) := (ofST t u a b c ha hb).mono fun r c' ⟨tk, uk, h, _⟩ => ⟨tk, uk, h⟩

theorem num10_spec (n : Int) (c : Nat) : VSpec Tryz.prog F.l10num c [iv n] (fun r _ => r = iv n) := by
 refine sG hm G.l10num ?_
 unfold C.l10num R.l10num cD
 refine xR ?_
 exact Nat.le_refl _
end Go.Proofs.YtcafgpconlkecaaGreatDoor
namespace Go.Proofs.YtcafgpconlkecaaGreatDoor
open Go.VM Go.RowKit

def Row1 (lo hi : Nat) (t : Tok) (l : List Nat) : Prop := (t = .nil ∧ l = []) ∨ ∃ i, t = .id i ∧ lo ≤ i ∧ i < hi
theorem Row1.mono {a b c d : Nat} {t : Tok} {l : List Nat} (h : Row1 a b t l) (h1 : c ≤ a) (h2 : b ≤ d) : Row1 c d t l := by
 rcases h with h | ⟨i, h, h3, h4⟩
 ·exact .inl h
 ·exact .inr ⟨i, h, by omega, by omega⟩
theorem Row1.of {a b : Nat} {t : Tok} {l : List Nat} (h : Tk a b t) (hl : t = .nil → l = []) : Row1 a b t l := by
 rcases h with rfl | ⟨i, rfl, h⟩
 ·exact .inl ⟨rfl, hl rfl⟩
 ·exact .inr ⟨i, rfl, h⟩
section
variable {P : Program} {c0 : Nat} {ρ : Nat → V} {c i : Nat} {r : List VO} {K : VS → Prop}
variable {σ : Nat → Option Blk} {dr : Bool}
end

end Go.Proofs.YtcafgpconlkecaaGreatDoor
namespace Go.VM
open Go.RowKit

section
variable {P : Program} {c0 : Nat} {ρ : Nat → V} {σ : Nat → Option Blk} {c i : Nat} {r : List VO} {K : VS → Prop} {d : Option Nat}
end
end Go.VM
namespace Go.Proofs.YtcafgpconlkecaaGreatDoor
open Go.VM

structure SP where
 t : Tok
 u : Tok
 a : RD
 b : RD
abbrev SP.cells (s : SP) : List V := [bv s.a.neg, nats s.t s.a.l, iv s.a.e, bv s.b.neg, nats s.u s.b.l, iv s.b.e]
def cellsL (L : List SP) : List V := L.flatMap SP.cells
theorem cellsL_len (L : List SP) : (cellsL L).length = 6 * L.length := by
 induction L with
 | nil => rfl
 | cons s L ih => simp only [cellsL, List.flatMap_cons, List.length_append, List.length_cons, List.length_nil] at ih ⊢; omega
theorem cellsL_at : ∀ (L : List SP) (i : Nat) (s : SP), L[i]? = some s → vpart (cellsL L) (i * 6) (some 6) = some (.agg s.cells)
 | [], i, s, h => by simp at h
 | q :: L, 0, s, h => by
  simp at h; subst h
  have h6 : ([bv q.a.neg, nats q.t q.a.l, iv q.a.e, bv q.b.neg, nats q.u q.b.l, iv q.b.e] : List V).all V.flat = true := rfl
  simp [cellsL, vpart, SP.cells]
  exact ⟨rfl, rfl, rfl, rfl, rfl, rfl⟩
 | q :: L, i + 1, s, h => by
  have ih := cellsL_at L i s (by simpa using h)
  have e : cellsL (q :: L) = bv q.a.neg :: nats q.t q.a.l :: iv q.a.e :: bv q.b.neg :: nats q.u q.b.l :: iv q.b.e :: cellsL L := rfl
  rw [e, show (i + 1) * 6 = i * 6 + 1 + 1 + 1 + 1 + 1 + 1 by omega, vp_succ, vp_succ, vp_succ, vp_succ, vp_succ, vp_succ]
  exact ih
end Go.Proofs.YtcafgpconlkecaaGreatDoor
namespace Go.Proofs.YtcafgpconlkecaaGreatDoor
open Go.VM Go.RowKit

section
variable {c0 : Nat} {ρ : Nat → V} {σ : Nat → Option Blk} {c i : Nat} {r : List VO} {K : VS → Prop}
end

def anE (f : Int) (lo hi : Dy) : Int := if f = 0 then ansE lo hi else f
def anL (f : Int) (lo hi : Dy) : Dy := if f = 0 then ansL lo hi else dy0
def anH (f : Int) (lo hi : Dy) : Dy := if f = 0 then ansH lo hi else dy0
theorem AnsF.an {c c' : Nat} {f : Int} {lo hi : Dy} {r : V} (h : AnsF c c' f lo hi r) (hcc : c ≤ c') : ∃ t u cm, c ≤ cm ∧ cm ≤ c' ∧ r = .tup [rsV t u (RD.of (anL f lo hi)) (RD.of (anH f lo hi)), iv (anE f lo hi)] ∧ Own1 c cm t (digs 18446744073709551616 (anL f lo hi).m) ∧ Own1 cm c' u (digs 18446744073709551616 (anH f lo hi).m) := by
 unfold anE anL anH
 by_cases g : f = 0
 ·obtain ⟨t, u, cm, h1, h2, h3, h4, h5⟩ := h.ok g
  rw [if_pos g, if_pos g, if_pos g]
  exact ⟨t, u, cm, h1, h2, h3, h4, h5⟩
 ·rw [if_neg g, if_neg g, if_neg g]
  exact ⟨.nil, .nil, c, Nat.le_refl _, hcc, h.bad g, .inl ⟨rfl, rfl⟩, .inl ⟨rfl, rfl⟩⟩
section
variable {c0 : Nat} {ρ : Nat → V} {σ : Nat → Option Blk} {c i : Nat} {r : List VO} {K : VS → Prop}
end
end Go.Proofs.YtcafgpconlkecaaGreatDoor
namespace Go.Proofs.YtcafgpconlkecaaGreatDoor
open Go.VM

def chkL : List SP → Int
 | [] => 0
 | s :: L => if chkE s.a s.b = 0 then chkL L else chkE s.a s.b
def chksE (pos : Int) (L : List SP) : Int := if chkL L = 0 then (if fitE pos then 0 else 1) else chkL L
theorem chkL_drop {L : List SP} {i : Nat} {s : SP} (h : L[i]? = some s) : chkL (L.drop i) = if chkE s.a s.b = 0 then chkL (L.drop (i + 1)) else chkE s.a s.b := by
 have hi := (List.getElem?_eq_some_iff.1 h).1
 have e : L[i] = s := (List.getElem?_eq_some_iff.1 h).2
 rw [List.drop_eq_getElem_cons hi, e]
 rfl
theorem checks_spec (pos : Int) (t : Tok) (L : List SP) (c : Nat) (hl : L.length ≤ 1000) (ha : ∀ s ∈ L, Arg s.a.l ∧ Arg s.b.l) : VSpec Tryz.prog F.span_checks c [iv pos, .sl t 6 (cellsL L)] (fun r _ => r = iv (chksE pos L)) := by
 refine sG hm G.span_checks ?_
 unfold C.span_checks R.span_checks cD
 have hcl := cellsL_len L
 have hd : (cellsL L).length / 6 = L.length := by omega
 refine zRF hd ?_
 refine v_loopR (fun S => chkL L = 0 ∧ S.ρ 0 = iv pos ∧ c ≤ S.c) ?_ ?_
 ·refine vwp_loop (fun k S => ∃ i, k = L.length - i ∧ i ≤ L.length ∧ chkL (L.drop i) = chkL L ∧ S.ρ 0 = iv pos ∧ S.ρ 8 = .sl t 6 (cellsL L) ∧ S.ρ 9 = iv L.length ∧ S.ρ 10 = iv i ∧ c ≤ S.c) L.length ?_ ?_
  ·refine ⟨0, by omega, by omega, rfl, ?_⟩
   refine xS ?_
   exact yA
  rintro k ⟨ρ, σ, c1⟩ ⟨i, hk, hi, hc, h0, h8, h9, h10, hc1⟩
  dsimp only at h0 h8 h9 h10 hc1
  by_cases g : (i : Int) < L.length
  ·have hi' : i < L.length := by omega
   obtain ⟨s, hs⟩ : ∃ s, L[i]? = some s := ⟨_, List.getElem?_eq_getElem hi'⟩
   have hat := cellsL_at L i s hs
   have hds := chkL_drop hs
   have e1 : (i : Int) + 1 = ((i + 1 : Nat) : Int) := by omega
   obtain ⟨g1, g2⟩ := ha s (List.mem_of_getElem? hs)
   refine zRF (jn h0 (jn h8 (jn h9 (jn h10 (jn g (jn hd (jn hi' hat))))))) ?_
   refine s_call (check_spec s.t s.u s.a s.b (c1 + 1) g1 g2) wS ?_
   rintro v c2 hc2 rfl
   by_cases g3 : chkE s.a s.b = 0
   ·rw [if_pos g3] at hds
    have hn : chkL (L.drop (i + 1)) = chkL L := by rw [← hds]; exact hc
    refine zRF (jn h0 (jn h8 (jn h9 (jn h10 (jn g3 e1))))) ?_
    refine ⟨L.length - (i + 1), by omega, i + 1, ?_⟩
    exact yA
   ·rw [if_neg g3] at hds
    have e2 : chksE pos L = chkE s.a s.b := by unfold chksE; rw [← hc, hds, if_neg g3]
    rw [e2]
    refine zRF (jn h0 (jn h8 (jn h9 (jn h10 g3)))) ?_
    exact yE
  ·have hi' : i = L.length := by omega
   subst hi'
   rw [List.drop_length] at hc
   have hn : chkL L = 0 := hc.symm
   refine zRF (jn h0 (jn h8 (jn h9 (jn h10 g)))) ?_
   exact yA
 rintro ⟨ρ, σ, c1⟩ ⟨hc, h0, hc1⟩
 dsimp only at h0 hc1
 have e0 : chksE pos L = if fitE pos then 0 else 1 := by unfold chksE; rw [if_pos hc]
 rw [e0]
 by_cases g1 : pos < -1099511627776
 ·have g2 : ¬ fitE pos := fun h => by unfold fitE at h; omega
  rw [if_neg g2]
  refine zRF (jn h0 g1) ?_
  exact yE
 ·by_cases g3 : (1099511627776 : Int) < pos
  ·have g2 : ¬ fitE pos := fun h => by unfold fitE at h; omega
   rw [if_neg g2]
   refine zRF (jn h0 (jn g1 g3)) ?_
   exact yE
  ·have g2 : fitE pos := ⟨by omega, by omega⟩
   rw [if_pos g2]
   refine zRF (jn h0 (jn g1 g3)) ?_
   exact yE

def pickD (s : Int) (x y : Dy) : Dy := if cmpD x y * s < 0 then y else x
theorem pickD_min (x y : Dy) : pickD (-1) x y = minD x y := by
 unfold pickD minD
 by_cases g : cmpD x y ≤ 0
 ·rw [if_neg (by omega), if_pos g]
 ·rw [if_pos (by omega), if_neg g]
theorem pick_spec (ta tb : Tok) (a b : RD) (s : Int) (c : Nat) (ha : a.Ok) (hb : b.Ok) (hs : s = -1 ∨ s = 1) : VSpec Tryz.prog F.dyadic_pick c [rdV ta a, rdV tb b, iv s] (fun r c' => AnsD c c' (pickD s a.d b.d) r) := by
 refine sG hm G.dyadic_pick ?_
 unfold C.dyadic_pick R.dyadic_pick cD
 have na := ha.num
 have nb := hb.num
 have a1 := na.lo
 have a2 := na.hi
 have b1 := nb.lo
 have b2 := nb.hi
 have la := na.arg.len
 have lb := nb.arg.len
 refine zR ?_
 refine s_call (two_spec a.neg b.neg ta tb a.l b.l a.e b.e (c + 3) ha.arg hb.arg ha.fit hb.fit) wS ?_
 rintro v c1 hc1 ⟨tx, ty, cm, h1, h2, rfl, hx, hy⟩
 have e1 : dyOf a.neg (val 18446744073709551616 a.l) a.e = a.d := rfl
 have e2 : dyOf b.neg (val 18446744073709551616 b.l) b.e = b.d := rfl
 rw [e1] at hx ⊢
 rw [e2] at hy ⊢
 refine zR ?_
 refine s_call (compare_spec' tx ty a.d b.d (c1 + 2) na nb) wS ?_
 rintro v c2 hc2 rfl
 have hcc := cmpD_cases a.d b.d
 have hcs : -1 ≤ cmpD a.d b.d * s ∧ cmpD a.d b.d * s ≤ 1 := by rcases hs with rfl | rfl <;> omega
 by_cases g : cmpD a.d b.d * s < 0
 ·have ep : pickD s a.d b.d = b.d := if_pos g
  rw [ep]
  refine zRF g ?_
  refine s_call (dtold_spec b.d.neg ty (digs 18446744073709551616 b.d.m) b.d.e c2 nb.arg.lim (by omega) (by omega) (by omega) (.inr (by rw [val_digs two64]; exact Nat.le_trans (bl_od _) nb.bits))) wS ?_
  rw [val_digs two64, dyOf_id nb.ok]
  rintro v c3 hc3 ⟨tr, rfl, htr⟩
  refine zR ?_
  exact ⟨tr, rfl, htr.mono (by omega) (by omega)⟩
 ·have ep : pickD s a.d b.d = a.d := if_neg g
  rw [ep]
  refine zRF g ?_
  refine s_call (dtold_spec a.d.neg tx (digs 18446744073709551616 a.d.m) a.d.e c2 na.arg.lim (by omega) (by omega) (by omega) (.inr (by rw [val_digs two64]; exact Nat.le_trans (bl_od _) na.bits))) wS ?_
  rw [val_digs two64, dyOf_id na.ok]
  rintro v c3 hc3 ⟨tr, rfl, htr⟩
  refine zR ?_
  exact ⟨tr, rfl, htr.mono (by omega) (by omega)⟩
theorem dmin_spec (ta tb : Tok) (a b : RD) (c : Nat) (ha : a.Ok) (hb : b.Ok) : VSpec Tryz.prog F.dyadic_Min c [rdV ta a, rdV tb b] (fun r c' => AnsD c c' (minD a.d b.d) r) := by
 refine sG hm G.dyadic_Min ?_
 unfold C.dyadic_Min R.dyadic_Min cD
 refine zR ?_
 refine s_call (pick_spec ta tb a b (-1) (c + 3) ha hb (.inl rfl)) wS ?_
 rw [pickD_min]
 rintro v c1 hc1 ⟨tr, rfl, htr⟩
 refine zR ?_
 exact ⟨tr, rfl, htr.mono (by omega) (by omega)⟩

def chk2 (a b p q : RD) : Int := if chkE a b = 0 then chkE p q else chkE a b
theorem chk2_eq (ta tb tc td : Tok) (a b p q : RD) : chksE 0 [⟨ta, tb, a, b⟩, ⟨tc, td, p, q⟩] = chk2 a b p q := by
 have e : chkL [⟨ta, tb, a, b⟩, ⟨tc, td, p, q⟩] = chk2 a b p q := by
  show (if chkE a b = 0 then (if chkE p q = 0 then 0 else chkE p q) else chkE a b) = if chkE a b = 0 then chkE p q else chkE a b
  by_cases g2 : chkE p q = 0
  ·rw [if_pos g2, g2]
  ·rw [if_neg g2]
 unfold chksE
 rw [e, if_pos (show fitE 0 from ⟨by decide, by decide⟩)]
 by_cases g : chk2 a b p q = 0
 ·rw [if_pos g, g]
 ·rw [if_neg g]
theorem chk2_ok {a b p q : RD} (h : chk2 a b p q = 0) : chkE a b = 0 ∧ chkE p q = 0 := by
 unfold chk2 at h
 split at h
 ·exact ⟨by assumption, h⟩
 ·rename_i g; exact absurd h g
theorem args2 {ta tb tc td : Tok} {a b p q : RD} (ha : Arg a.l) (hb : Arg b.l) (hp : Arg p.l) (hq : Arg q.l) : ∀ s ∈ ([⟨ta, tb, a, b⟩, ⟨tc, td, p, q⟩] : List SP), Arg s.a.l ∧ Arg s.b.l := by
 intro s hs
 simp only [List.mem_cons, List.not_mem_nil, or_false] at hs
 rcases hs with rfl | rfl
 ·exact ⟨ha, hb⟩
 ·exact ⟨hp, hq⟩
theorem checks2 (ta tb tc td : Tok) (a b p q : RD) (tk : Tok) (c : Nat) (ha : Arg a.l) (hb : Arg b.l) (hp : Arg p.l) (hq : Arg q.l) :
  VSpec Tryz.prog F.span_checks c [iv 0, .sl tk 6 (cellsL [⟨ta, tb, a, b⟩, ⟨tc, td, p, q⟩])] (fun r _ => r = iv (chk2 a b p q)) := by
 rw [← chk2_eq ta tb tc td]
 exact checks_spec 0 tk _ c (by simp) (args2 ha hb hp hq)
structure Op2 (f : FuncId) (D : Dy → Dy → Dy) : Prop where
 ex : ∃ fn b, Tryz.prog.funcs[f]? = some fn ∧ (fn.name == "runtime.NumGoroutine") = false ∧ fn.body = some b
 sp : ∀ (ta tb : Tok) (a b : RD) (c : Nat), a.Ok → b.Ok → VSpec Tryz.prog f c [rdV ta a, rdV tb b] (fun r c' => AnsD c c' (D a.d b.d) r)
theorem op2_min : Op2 F.dyadic_Min minD := ⟨⟨_, _, G.dyadic_Min.e, by kernel_rfl, G.dyadic_Min.b⟩, dmin_spec⟩
abbrev fnV (f : FuncId) : V := .lit (.func (.func f) #[] #[])
theorem pair_spec {f g : FuncId} {D D' : Dy → Dy → Dy} (hf : Op2 f D) (hg : Op2 g D') (ta tb tc td : Tok) (a b p q : RD) (c : Nat) (ha : Arg a.l) (hb : Arg b.l) (hp : Arg p.l) (hq : Arg q.l) :
  VSpec Tryz.prog F.span_pair c [rsV ta tb a b, rsV tc td p q, fnV f, fnV g] (fun r c' => AnsF c c' (chk2 a b p q) (D a.d p.d) (D' b.d q.d) r) := by
 refine sG hm G.span_pair ?_
 unfold C.span_pair R.span_pair cD
 refine zR ?_
 refine s_call (checks2 ta tb tc td a b p q (.id (c + 3)) (c + 4) ha hb hp hq) wSr ?_
 rintro v c1 hc1 rfl
 by_cases h : chk2 a b p q = 0
 ·obtain ⟨k1, k2⟩ := chk2_ok h
  obtain ⟨fa, fb, _⟩ := chk_ok k1
  obtain ⟨fp, fq, _⟩ := chk_ok k2
  rw [h]
  refine zR ?_
  refine s_callv (f := f) wS hf.ex (hf.sp ta tc a p c1 ⟨ha, fa⟩ ⟨hp, fp⟩) wS ?_
  rintro v c2 hc2 ⟨t1, rfl, ht1⟩
  refine zR ?_
  refine s_callv (f := g) wS hg.ex (hg.sp tb td b q (c2 + 1) ⟨hb, fb⟩ ⟨hq, fq⟩) wS ?_
  rintro v c3 hc3 ⟨t2, rfl, ht2⟩
  refine zR ?_
  refine s_call (ends_spec t1 t2 (RD.of (ansD (D a.d p.d))) (RD.of (ansD (D' b.d q.d))) (tE (D a.d p.d)) (tE (D' b.d q.d)) (c3 + 1)) wSr ?_
  rintro v c4 hc4 hv
  have hA := ansS_of (c := c) (c1 := c2) (c2 := c3) (c3 := c4) (by omega) (by omega) (by omega) (ht1.mono (by omega) (by omega)) (ht2.mono (by omega) (by omega)) hv
  obtain ⟨t, u, cm, g1, g2, rfl, gt, gu⟩ := hA
  refine zR ?_
  exact ⟨fun h => absurd rfl h, fun _ => ⟨t, u, cm, by omega, by omega, rfl, gt, gu⟩⟩
 ·refine zRF h ?_
  exact ⟨fun _ => rfl, fun e => absurd e h⟩
theorem AnsF.mono {c c' d d' : Nat} {f : Int} {x y : Dy} {r : V} (h : AnsF c c' f x y r) (h1 : d ≤ c) (h2 : c' ≤ d') : AnsF d d' f x y r := ⟨h.bad, fun g => (h.ok g).mono h1 h2⟩
theorem smin_spec (ta tb tc td : Tok) (a b p q : RD) (c : Nat) (ha : Arg a.l) (hb : Arg b.l) (hp : Arg p.l) (hq : Arg q.l) :
  VSpec Tryz.prog F.span_Min c [rsV ta tb a b, rsV tc td p q] (fun r c' => AnsF c c' (chk2 a b p q) (minD a.d p.d) (minD b.d q.d) r) := by
 refine sG hm G.span_Min ?_
 unfold C.span_Min R.span_Min cD
 refine zR ?_
 refine s_call (pair_spec op2_min op2_min ta tb tc td a b p q (c + 3) ha hb hp hq) wS ?_
 rintro v c1 hc1 hv
 obtain ⟨p1, p2, m1, h1, h2, rfl, _, _⟩ := hv.an (by omega)
 refine zR ?_
 exact hv.mono (by omega) (by omega)


def w2 (pos f g : Int) : Int := if f = 0 then (if g = 0 then (if fitE pos then 0 else 1) else g) else f
inductive Chn : Nat → List (Tok × List Nat) → Nat → Prop
 | nil {lo hi : Nat} (h : lo ≤ hi) : Chn lo [] hi
 | cons {lo a b hi : Nat} {t : Tok} {l : List Nat} {r : List (Tok × List Nat)} (h : Own1 a b t l) (h1 : lo ≤ a) (h2 : lo ≤ b) (hr : Chn b r hi) : Chn lo ((t, l) :: r) hi
theorem Chn.le {lo hi : Nat} {r : List (Tok × List Nat)} (h : Chn lo r hi) : lo ≤ hi := by
 induction h with
 | nil h => exact h
 | cons h h1 h2 hr ih => omega
theorem Chn.row {lo hi : Nat} {r : List (Tok × List Nat)} (h : Chn lo r hi) : ∀ p ∈ r, Own1 lo hi p.1 p.2 := by
 induction h with
 | nil h => intro p hp; cases hp
 | cons h h1 h2 hr ih =>
  intro p hp
  rcases List.mem_cons.1 hp with rfl | hp
  ·exact h.mono h1 hr.le
  ·exact (ih p hp).mono h2 (Nat.le_refl _)

def hasB (x y z : Dy) : Bool := decide (cmpD x z ≤ 0) && decide (cmpD z y ≤ 0)
theorem sgW_d (a : RD) : sgW a.neg (val 18446744073709551616 a.l) = a.d.sg := by
 have e : a.d.sg = sgW a.d.neg a.d.m := rfl
 rw [e]
 unfold RD.d dyOf sgW
 by_cases g : val 18446744073709551616 a.l = 0
 ·rw [if_pos g, if_pos g]; rfl
 ·rw [if_neg g, if_neg g]
  have := od_pos g
  have h : ¬ (⟨a.neg, od (val 18446744073709551616 a.l), a.e + ((tz (val 18446744073709551616 a.l) : Nat) : Int)⟩ : Dy).m = 0 := by show ¬ od (val 18446744073709551616 a.l) = 0; omega
  exact (if_neg h).symm
theorem dsign_spec (t : Tok) (a : RD) (c : Nat) (ha : Arg a.l) : VSpec Tryz.prog F.dyadic_Sign c [rdV t a] (fun r _ => r = iv a.d.sg) := by
 refine sG hm G.dyadic_Sign ?_
 unfold C.dyadic_Sign R.dyadic_Sign cD
 have := ha.len
 refine zR ?_
 refine s_call (sign_spec a.neg t a.l (c + 1) ha.lim (by omega)) wS ?_
 rintro v c1 hc1 rfl
 rw [sgW_d]
 refine zR ?_
 exact yE

theorem rhas_spec (t u w : Tok) (x y z : Dy) (c : Nat) (hx : RNum x) (hy : RNum y) (hz : RNum z) : VSpec Tryz.prog F.r10Has c [fsV t u x y, fV w z] (fun r _ => r = bv (hasB x y z)) := by
 refine sG hm G.r10Has ?_
 unfold C.r10Has R.r10Has cD
 unfold hasB
 refine zR ?_
 refine s_call (rcmp_spec t w x z (c + 2) hx hz) wS ?_
 rintro v c1 hc1 rfl
 by_cases g1 : cmpD x z ≤ 0
 ·rw [decide_eq_true g1]
  refine zRF g1 ?_
  refine s_call (rcmp_spec w u z y c1 hz hy) wS ?_
  rintro v c2 hc2 rfl
  by_cases g2 : cmpD z y ≤ 0
  ·rw [decide_eq_true g2]
   refine zRF g2 ?_
   exact yE
  ·rw [decide_eq_false g2]
   refine zRF g2 ?_
   exact yE
 ·rw [decide_eq_false g1]
  refine zRF g1 ?_
  exact yE

theorem bl_addK {a b k : Nat} (ha : bl a ≤ k) (hb : bl b ≤ k) : bl (a + b) ≤ k + 1 := bl_le (by have h1 := lt_of_bl ha; have h2 := lt_of_bl hb; rw [Nat.pow_succ]; omega)
theorem bl_halfK {a k : Nat} (ha : bl a ≤ k + 1) : bl (a / 2) ≤ k := bl_le (by have h1 := lt_of_bl ha; rw [Nat.pow_succ] at h1; omega)
theorem od_odd {n : Nat} (h : n % 2 = 1) : od n = n := by
 unfold od
 rw [tz_odd h, Nat.pow_zero, Nat.div_one]
theorem od_even {n : Nat} (h : n % 2 = 0) : od n ≤ n / 2 := by
 by_cases g : n = 0
 ·subst g; rw [od_zero]; omega
 ·have h1 := tz_even g h
  unfold od
  rw [h1, Nat.pow_succ, Nat.mul_comm, ← Nat.div_div_eq_div_mul]
  exact Nat.div_le_self _ _
theorem dyOf_odd {neg : Bool} {n : Nat} {e : Int} (h : n % 2 = 1) : dyOf neg n e = ⟨neg, n, e⟩ := by
 unfold dyOf
 rw [if_neg (by omega), od_odd h, tz_odd h]
 simp
theorem addW_odd {an bn : Bool} {a b : Nat} (ha : a % 2 = 0) (hb : b % 2 = 1) : (addW an a bn b).2 % 2 = 1 := by
 unfold addW
 split
 ·show (a + b) % 2 = 1; omega
 ·split
  ·show (b - a) % 2 = 1; omega
  ·show (a - b) % 2 = 1; omega
theorem addW_ge {an bn : Bool} {a b : Nat} : a ≤ (addW an a bn b).2 + b := by
 unfold addW
 split
 ·show a ≤ a + b + b; omega
 ·split
  ·show a ≤ b - a + b; omega
  ·show a ≤ a - b + b; omega
theorem addW_le {an bn : Bool} {a b : Nat} : (addW an a bn b).2 ≤ a + b := by
 unfold addW
 split
 ·show a + b ≤ a + b; omega
 ·split
  ·show b - a ≤ a + b; omega
  ·show a - b ≤ a + b; omega
theorem even_shl {m k : Nat} (hk : 0 < k) : m * 2 ^ k % 2 = 0 := by
 obtain ⟨j, rfl⟩ : ∃ j, k = j + 1 := ⟨k - 1, by omega⟩
 rw [Nat.pow_succ, ← Nat.mul_assoc]
 omega
abbrev sumW (x y : Dy) : Bool × Nat := addW x.neg (x.m * 2 ^ (x.e - y.e).toNat) y.neg y.m
theorem addD_sumW {x y : Dy} (h : y.e ≤ x.e) : addD x y = dyOf (sumW x y).1 (sumW x y).2 y.e := addD_addW h
theorem sumW_odd {x y : Dy} (h : y.e < x.e) (hy : y.m % 2 = 1) : (sumW x y).2 % 2 = 1 := addW_odd (even_shl (by omega)) hy
theorem sum_far {x y : Dy} {k : Nat} (hxy : y.e < x.e) (hy : y.m % 2 = 1) (hyb : bl y.m ≤ k) (hx : k + 1 < bl (x.m * 2 ^ (x.e - y.e).toNat)) : k < bl (addD x y).m := by
 have h1 := sumW_odd hxy hy
 rw [addD_sumW (Int.le_of_lt hxy), dyOf_odd h1]
 show k < bl (sumW x y).2
 refine Nat.lt_of_not_le fun g => ?_
 have h2 := bl_addK g hyb
 have h3 : bl (x.m * 2 ^ (x.e - y.e).toNat) ≤ bl ((sumW x y).2 + y.m) := bl_mono (addW_ge (an := x.neg) (a := x.m * 2 ^ (x.e - y.e).toNat) (bn := y.neg) (b := y.m))
 omega
theorem sum_fit {x y : Dy} {k : Nat} (hxy : y.e ≤ x.e) (hx : x.m % 2 = 1) (hy : y.m % 2 = 1) (hxb : bl x.m ≤ k) (hyb : bl y.m ≤ k) : tz (sumW x y).2 = 0 ∨ bl (od (sumW x y).2) ≤ k := by
 by_cases g : y.e = x.e
 ·by_cases h : (sumW x y).2 % 2 = 1
  ·exact .inl (tz_odd h)
  ·refine .inr (Nat.le_trans (bl_mono (od_even (by omega))) (bl_halfK ?_))
   refine Nat.le_trans (bl_mono addW_le) (bl_addK ?_ hyb)
   rw [show (x.e - y.e).toNat = 0 by omega, Nat.pow_zero, Nat.mul_one]
   exact hxb
 ·exact .inl (tz_odd (sumW_odd (by omega) hy))
theorem addD_comm0 {x y : Dy} (hx : x.Ok) (h : y.m = 0) (hy : y.Ok) : addD x y = x := by
 rw [addD_comm]
 exact addD_zero hx (hy.zero h)
theorem sum_bl {x y : Dy} {k : Nat} (h : y.e ≤ x.e) (hx : bl (x.m * 2 ^ (x.e - y.e).toNat) ≤ k) (hy : bl y.m ≤ k) : bl (sumW x y).2 ≤ k + 1 := Nat.le_trans (bl_mono addW_le) (bl_addK hx hy)

end Go.Proofs.YtcafgpconlkecaaGreatDoor
