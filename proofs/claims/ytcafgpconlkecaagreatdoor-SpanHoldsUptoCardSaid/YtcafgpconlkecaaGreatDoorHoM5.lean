/- Texts of a claim, merged: what they prove is told at the last one's head. -/
import Derived.Test.YtcafgpconlkecaaGreatDoorHoM4
set_option linter.unusedSimpArgs false
set_option linter.unusedVariables false
set_option maxRecDepth 100000
set_option maxHeartbeats 8000000
namespace Go.Proofs.YtcafgpconlkecaaGreatDoor
open Go.VM

theorem addW_neg {an bn : Bool} {a b : Nat} (h : b ≤ a) (g : an ≠ bn) : addW an a bn b = (an, a - b) := by
 unfold addW
 rw [if_neg g, if_neg (by omega)]
theorem addW_neg' {an bn : Bool} {a b : Nat} (h : a < b) (g : an ≠ bn) : addW an a bn b = (bn, b - a) := by
 unfold addW
 rw [if_neg g, if_pos h]
theorem radd06_spec (t u : Tok) (an bn : Bool) (a b c : Nat) (ha : bl a ≤ 34359738368) (hb : bl b ≤ 34359738368) :
  VSpec Tryz.prog F.r06Add c [zV t an a, zV u bn b] (fun r _ => ∃ tk, r = zV tk (zneg (addW an a bn b).1 (addW an a bn b).2) (addW an a bn b).2) := by
 refine sG hm G.r06Add ?_
 unfold C.r06Add R.r06Add cD
 have hs := bl_addK ha hb
 by_cases g : an = bn
 ·subst g
  have e : addW an a an b = (an, a + b) := if_pos rfl
  have en : sbin .eql true (bv an) (bv an) = some (bv true) := by cases an <;> rfl
  rw [e]
  refine zRF en ?_
  refine s_call (addR t u a b (c + 3) (by omega) (by omega)) wS ?_
  rintro v c1 hc1 ⟨i, rfl, _, _⟩
  refine zR ?_
  refine s_call (make1_spec an (.id i) (a + b) c1 (by omega)) wS ?_
  rintro v c2 hc2 rfl
  refine zR ?_
  exact ⟨_, rfl⟩
 ·have en : sbin .eql true (bv an) (bv bn) = some (bv false) := by cases an <;> cases bn <;> first | rfl | exact absurd rfl g
  refine zRF en ?_
  refine s_call (cmpR t u a b (c + 3) (by omega) (by omega)) wS ?_
  rintro v c1 hc1 rfl
  by_cases h : b ≤ a
  ·have h1 : 0 ≤ cmpI a b := by have := cmpI_cases a b; omega
   rw [addW_neg h g]
   refine zRF h1 ?_
   refine s_call (subR t u a b c1 (by omega) h) wS ?_
   rintro v c2 hc2 ⟨i, rfl, _, _⟩
   refine zR ?_
   refine s_call (make1_spec an (.id i) (a - b) c2 (Nat.le_trans (bl_mono (Nat.sub_le a b)) (by omega))) wS ?_
   rintro v c3 hc3 rfl
   refine zR ?_
   exact ⟨_, rfl⟩
  ·have h1 : ¬ 0 ≤ cmpI a b := by have := cmpI_cases a b; omega
   rw [addW_neg' (by omega) g]
   refine zRF h1 ?_
   refine s_call (subR u t b a c1 (by omega) (by omega)) wS ?_
   rintro v c2 hc2 ⟨i, rfl, _, _⟩
   refine zR ?_
   refine s_call (make1_spec bn (.id i) (b - a) c2 (Nat.le_trans (bl_mono (Nat.sub_le b a)) (by omega))) wS ?_
   rintro v c3 hc3 rfl
   refine zR ?_
   exact ⟨_, rfl⟩
theorem rneg06_spec (t : Tok) (neg : Bool) (n c : Nat) (hn : bl n ≤ 68719476736) : VSpec Tryz.prog F.r06Neg c [zV t neg n] (fun r _ => r = zV t (zneg (!neg) n) n) := by
 refine sG hm G.r06Neg ?_
 unfold C.r06Neg R.r06Neg cD
 refine zR ?_
 refine s_call (make1_spec (!neg) t n (c + 2) hn) wS ?_
 rintro v c1 hc1 rfl
 refine zR ?_
 exact yE
theorem rneg_spec (t : Tok) (x : Dy) (c : Nat) (hx : RNum x) : VSpec Tryz.prog F.r08Neg c [fV t x] (fun r _ => r = fV t (negD x)) := by
 refine sG hm G.r08Neg ?_
 unfold C.r08Neg R.r08Neg cD
 have h3 := hx.bits
 have e : fV t (negD x) = .agg [bv (zneg (!x.neg) x.m), nats t (digs 4294967296 x.m), iv x.e] := by
  unfold negD zneg
  by_cases g : x.m = 0
  ·rw [if_pos g, g]
   have := hx.ok.zero g
   rw [this]
   simp [dy0]
  ·rw [if_neg g, decide_eq_false g]
   simp
 rw [e]
 refine zR ?_
 refine s_call (rneg06_spec t x.neg x.m (c + 2) h3) wS ?_
 rintro v c1 hc1 rfl
 refine zR ?_
 exact yE

def farD (x y : Dy) : Prop := (y.e ≤ x.e ∧ x.m ≠ 0 ∧ y.m ≠ 0 ∧ 67108864 + (bl y.m : Int) + 2 < x.e - y.e)
theorem far_long {x y : Dy} (h : farD x y) (hy : y.Ok) (hyb : bl y.m ≤ 68719476736) : 67108864 < bl (addD x y).m := by
 obtain ⟨h1, h2, h3, h4⟩ := h
 have oy : y.m % 2 = 1 := hy.odd.resolve_left h3
 have h5 := sumW_odd (x := x) (y := y) (by omega) oy
 rw [addD_sumW h1, dyOf_odd h5]
 show 67108864 < bl (sumW x y).2
 have h6 : bl (x.m * 2 ^ (x.e - y.e).toNat) ≤ bl ((sumW x y).2 + y.m) := bl_mono (addW_ge (an := x.neg) (a := x.m * 2 ^ (x.e - y.e).toNat) (bn := y.neg) (b := y.m))
 rw [bl_shl h2] at h6
 refine Nat.lt_of_not_le fun g => ?_
 have h7 := bl_addK (a := (sumW x y).2) (b := y.m) (k := 67108864 + bl y.m) (by omega) (by omega)
 omega
def RSum (x y : Dy) (r : V) : Prop := (bl (addD x y).m ≤ 2000000001 ∧ ∃ tk, r = .tup [fV tk (addD x y), bv true]) ∨ (67108864 < bl (addD x y).m ∧ ∃ tk, r = .tup [fV tk dy0, bv false])
def RSum2 (x y : Dy) (r : V) : Prop := (bl (addD x y).m ≤ 2000000001 ∧ bl (addD x y).m ≤ bl x.m + bl y.m + 67108867 ∧ ∃ tk, r = .tup [fV tk (addD x y), bv true]) ∨ (67108864 < bl (addD x y).m ∧ ∃ tk, r = .tup [fV tk dy0, bv false])
theorem radd2_spec (t u : Tok) (x y : Dy) (c : Nat) (hx : RNum x) (hy : RNum y) (bx : bl x.m ≤ 536870912) (by0 : bl y.m ≤ 536870912) :
  VSpec Tryz.prog F.r08Add c [fV t x, fV u y] (fun r _ => RSum2 x y r) := by
 refine sG hm G.r08Add ?_
 unfold C.r08Add R.r08Add cD
 have hlx := hx.lo
 have hhx := hx.hi
 have hly := hy.lo
 have hhy := hy.hi
 refine zR ?_
 refine s_call (zsign_spec x.neg t x.m (c + 3) hx.bits hx.nz) wS ?_
 rintro v c1 hc1 rfl
 by_cases gx : x.m = 0
 ·have e0 : sgW x.neg x.m = 0 := by unfold sgW; rw [if_pos gx]
  refine zRF e0 ?_
  have ea := addD_zero hy.ok (hx.ok.zero gx)
  exact .inl ⟨by rw [ea]; omega, by rw [ea]; omega, u, by rw [ea]⟩
 have e0 : ¬ sgW x.neg x.m = 0 := by unfold sgW; rw [if_neg gx]; split <;> decide
 refine zRF e0 ?_
 refine s_call (zsign_spec y.neg u y.m c1 hy.bits hy.nz) wS ?_
 rintro v c2 hc2 rfl
 by_cases gy : y.m = 0
 ·have e1 : sgW y.neg y.m = 0 := by unfold sgW; rw [if_pos gy]
  refine zRF e1 ?_
  have ea := addD_comm0 hx.ok gy hy.ok
  exact .inl ⟨by rw [ea]; omega, by rw [ea]; omega, t, by rw [ea]⟩
 have e1 : ¬ sgW y.neg y.m = 0 := by unfold sgW; rw [if_neg gy]; split <;> decide
 refine zSF e1 ?_
 refine v_cond ?_
 refine zSF e1 ?_
 refine vwp_skip ?_
 refine zS ?_
 refine v_cut (fun S => ∃ x' y' : Dy, ∃ tx' ty' : Tok, RNum x' ∧ RNum y' ∧ x'.m ≠ 0 ∧ y'.m ≠ 0 ∧ bl x'.m ≤ 536870912 ∧ bl y'.m ≤ 536870912 ∧ y'.e ≤ x'.e ∧ addD x' y' = addD x y ∧ bl x'.m + bl y'.m = bl x.m + bl y.m ∧ S.ρ 2 = .ptr c 0 ∧ S.ρ 3 = .ptr (c + 1) 0 ∧ S.ρ 4 = .ptr (c + 2) 0 ∧ S.σ c = some ⟨[bv x'.neg, nats tx' (digs 4294967296 x'.m), iv x'.e], true⟩ ∧ S.σ (c + 1) = some ⟨[bv y'.neg, nats ty' (digs 4294967296 y'.m), iv y'.e], true⟩ ∧ S.σ (c + 2) = some ⟨[bv false, .sl .nil 1 [], iv 0], true⟩ ∧ c2 ≤ S.c) ?_ ?_
 ·by_cases g : x.e < y.e
  ·refine zRF g ?_
   refine ⟨y, x, u, t, hy, hx, gy, gx, by0, bx, by omega, addD_comm y x, Nat.add_comm _ _, ?_⟩
   (repeat' apply And.intro) <;> first | rfl | omega | assumption | exact True.intro
  ·refine zRF g ?_
   refine ⟨x, y, t, u, hx, hy, gx, gy, bx, by0, by omega, rfl, rfl, ?_⟩
   (repeat' apply And.intro) <;> first | rfl | omega | assumption | exact True.intro
 rintro ⟨ρ, σ, c3⟩ ⟨x', y', tx', ty', hx', hy', gx', gy', bx', by1, hee, had, hbb, r2, r3, r4, s0, s1, s2, hc3⟩
 dsimp only at r2 r3 r4 s0 s1 s2 hc3
 unfold RSum2
 rw [← had, ← hbb]
 clear had hbb e0 e1 hlx hhx hly hhy hx hy gx gy bx by0
 have hlx := hx'.lo
 have hhx := hx'.hi
 have hly := hy'.lo
 have hhy := hy'.hi
 refine zRF (jn r2 (jn r3 (jn r4 (jn s0 (jn s1 s2))))) ?_
 refine s_call (lenR ty' y'.m c3 hy'.bits) (wSF (jn r2 (jn r3 (jn r4 (jn s0 (jn s1 s2)))))) ?_
 rintro v c4 hc4 rfl
 by_cases g : 67108864 + (bl y'.m : Int) + 2 < x'.e - y'.e
 ·refine zRF (jn r2 (jn r3 (jn r4 (jn s0 (jn s1 (jn s2 g)))))) ?_
  exact .inr ⟨far_long ⟨hee, gx', gy', g⟩ hy'.ok hy'.bits, .nil, rfl⟩
 obtain ⟨k, hk⟩ : ∃ k : Nat, x'.e - y'.e = (k : Int) := ⟨(x'.e - y'.e).toNat, by omega⟩
 rw [hk] at g
 have hkn : (x'.e - y'.e).toNat = k := by omega
 have hsum := addD_sumW (x := x') (y := y') hee
 unfold sumW at hsum
 rw [hkn] at hsum
 have hbk := bl_shl (x := x'.m) (k := k) gx'
 have hX0 : x'.m * 2 ^ k ≠ 0 := Nat.mul_ne_zero gx' (Nat.ne_of_gt (Nat.two_pow_pos k))
 refine zRF (jn r2 (jn r3 (jn r4 (jn s0 (jn s1 (jn s2 (jn hk g))))))) ?_
 refine s_call (shift06_spec tx' x'.neg x'.m k c4 hx'.bits gx' (by omega) (by rw [hbk]; omega)) (wSF (jn r2 (jn r3 (jn r4 (jn s0 (jn s1 (jn s2 hk))))))) ?_
 rintro v c5 hc5 ⟨tk, rfl⟩
 have hwb := Nat.le_trans (bl_mono (addW_le (an := x'.neg) (a := x'.m * 2 ^ k) (bn := y'.neg) (b := y'.m))) (bl_addK (k := 2000000000) (by rw [hbk]; omega) (by omega))
 have hwc := Nat.le_trans (bl_mono (addW_le (an := x'.neg) (a := x'.m * 2 ^ k) (bn := y'.neg) (b := y'.m))) (bl_addK (k := bl x'.m + bl y'.m + 67108866) (by rw [hbk]; omega) (by omega))
 generalize x'.m * 2 ^ k = X at *
 refine zRF (jn r2 (jn r3 (jn r4 (jn s0 (jn s1 s2))))) ?_
 refine s_call (radd06_spec tk ty' x'.neg y'.neg X y'.m c5 (by omega) (by omega)) (wSF (jn r2 (jn r3 (jn r4 (jn s0 (jn s1 s2)))))) ?_
 rintro v c6 hc6 ⟨tq, rfl⟩
 refine zRF (jn r2 (jn r3 (jn r4 (jn s0 (jn s1 s2))))) ?_
 refine s_call (of08_spec (zneg (addW x'.neg X y'.neg y'.m).1 (addW x'.neg X y'.neg y'.m).2) tq (addW x'.neg X y'.neg y'.m).2 y'.e c6 (by omega) (fun h => by unfold zneg; rw [h]; simp) (by omega) (by omega)) (wSF (jn r2 (jn r3 (jn r4 (jn s0 (jn s1 s2)))))) ?_
 rintro v c7 hc7 ⟨tr, rfl⟩
 rw [dyOf_zneg, ← hsum]
 refine zRF (jn r2 (jn r3 (jn r4 (jn s0 (jn s1 s2))))) ?_
 exact .inl ⟨by rw [hsum]; exact Nat.le_trans dyOf_bl (by omega), by rw [hsum]; exact Nat.le_trans dyOf_bl (by omega), tr, rfl⟩

section
variable {P : Program} {c0 : Nat} {ρ : Nat → V} {c i : Nat} {r : List VO} {K : VS → Prop} {σ : Nat → Option Blk} {dr : Bool}
end
def RefN (n : Nat) (r : V) : Prop := ∃ tk, r = nats tk (digs 4294967296 n)
theorem RefR.N {c c' n : Nat} {r : V} (h : RefR c c' n r) : RefN n r := by obtain ⟨i, h, _⟩ := h; exact ⟨_, h⟩

theorem limb_spec (t : Tok) (l : List Nat) (i c : Nat) (hn : l.length ≤ 4398046511104) : VSpec Tryz.prog F.dyadic_limb c [nats t l, iv (i : Int)] (fun r _ => r = nv (l.getD i 0)) := by
 refine sG hm G.dyadic_limb ?_
 unfold C.dyadic_limb R.dyadic_limb cD
 by_cases g : (i : Int) < l.length
 ·refine xRF g ?_
  exact Nat.le_refl _
 ·refine xRF g ?_
  rw [getD_ge (by omega)]
theorem plus_carry {x y o : Nat} (hx : x < 18446744073709551616) (hy : y < 18446744073709551616) (ho : o ≤ 1) (g : (x + y) % 18446744073709551616 < x) : 1 = (x + y + o) / 18446744073709551616 ∧ ((x + y) % 18446744073709551616 + o) % 18446744073709551616 = (x + y + o) % 18446744073709551616 := by omega
theorem plus_carry2 {x y o : Nat} (hx : x < 18446744073709551616) (hy : y < 18446744073709551616) (ho : o ≤ 1) (g : ¬ (x + y) % 18446744073709551616 < x) (g2 : ((x + y) % 18446744073709551616 + o) % 18446744073709551616 < (x + y) % 18446744073709551616) : 1 = (x + y + o) / 18446744073709551616 ∧ ((x + y) % 18446744073709551616 + o) % 18446744073709551616 = (x + y + o) % 18446744073709551616 := by omega
theorem plus_nocarry {x y o : Nat} (hx : x < 18446744073709551616) (hy : y < 18446744073709551616) (ho : o ≤ 1) (g : ¬ (x + y) % 18446744073709551616 < x) (g2 : ¬ ((x + y) % 18446744073709551616 + o) % 18446744073709551616 < (x + y) % 18446744073709551616) : 0 = (x + y + o) / 18446744073709551616 ∧ ((x + y) % 18446744073709551616 + o) % 18446744073709551616 = (x + y + o) % 18446744073709551616 := by omega
theorem plus_spec (t u : Tok) (a b : List Nat) (c : Nat) (ha : Lim 18446744073709551616 a) (hb : Lim 18446744073709551616 b) (hna : a.length ≤ 1099511627776) (hnb : b.length ≤ 1099511627776) :
  VSpec Tryz.prog F.dyadic_plus c [nats t a, nats u b] (fun r c' => NatR c c' (val 18446744073709551616 a + val 18446744073709551616 b) r) := by
 refine sG hm G.dyadic_plus ?_
 unfold C.dyadic_plus R.dyadic_plus cD
 obtain ⟨n, hn, hn1, hn2, hn3⟩ : ∃ n : Nat, max (a.length : Int) (b.length : Int) = (n : Int) ∧ a.length ≤ n ∧ b.length ≤ n ∧ n ≤ 1099511627776 := by
  by_cases g : b.length > a.length
  ·exact ⟨b.length, by omega, by omega, by omega, by omega⟩
  ·exact ⟨a.length, by omega, by omega, by omega, by omega⟩
 refine xRF hn ?_
 refine s_mk (n := n + 1) (m := n + 1) (ySrF hn) (ySrF hn) (Nat.le_refl _) (by omega) ?_
 refine xRF hn ?_
 have htot : val 18446744073709551616 a + val 18446744073709551616 b < 18446744073709551616 ^ (n + 1) := by
  have h1 : val 18446744073709551616 a < 18446744073709551616 ^ n := Nat.lt_of_lt_of_le (val_lt ha) (Nat.pow_le_pow_right (by decide) hn1)
  have h2 : val 18446744073709551616 b < 18446744073709551616 ^ n := Nat.lt_of_lt_of_le (val_lt hb) (Nat.pow_le_pow_right (by decide) hn2)
  rw [Nat.pow_succ]
  generalize 18446744073709551616 ^ n = P at *
  omega
 refine v_loop (fun S => ∃ w, w.length = n + 1 ∧ Lim 18446744073709551616 w ∧ val 18446744073709551616 w = val 18446744073709551616 a + val 18446744073709551616 b ∧ S.ρ 5 = .buf c 0 (n + 1) (some (n + 1)) 1 ∧ S.σ = supd noBlk c (nblk w) ∧ c + 1 ≤ S.c) ?_ ?_
 ·refine vwp_loop (fun k S => ∃ i w carry, k = n + 1 - i ∧ i ≤ n + 1 ∧ w.length = i ∧ Lim 18446744073709551616 w ∧ carry ≤ 1 ∧ val 18446744073709551616 w + 18446744073709551616 ^ i * carry = val 18446744073709551616 (a.take i) + val 18446744073709551616 (b.take i) ∧ S.ρ 0 = nats t a ∧ S.ρ 1 = nats u b ∧ S.ρ 20 = iv ((n + 1 : Nat) : Int) ∧ S.ρ 6 = nv carry ∧ S.ρ 21 = iv (i : Int) ∧ S.ρ 5 = .buf c 0 (n + 1) (some (n + 1)) 1 ∧ S.σ = supd noBlk c (nblk (w ++ List.replicate (n + 1 - i) 0)) ∧ c + 1 ≤ S.c) (n + 1) ?_ ?_
  ·refine ⟨0, [], 0, by omega, by omega, ?_⟩
   refine xS ?_
   (repeat' apply And.intro) <;> first | rfl | omega | assumption | exact Lim.nil | (simp [val]; done)
  rintro k ⟨ρ2, σ, c4⟩ ⟨i, w, carry, hk, hi, hw, hlw, hca, hinv, h0, h1, h20, h6, h21, h5, hσ, hc4⟩
  dsimp only at h0 h1 h20 h6 h21 h5 hσ hc4
  subst hσ
  by_cases g : (i : Int) < ((n + 1 : Nat) : Int)
  ·have hxi := ha.getD (i := i) (by decide)
   have hyi := hb.getD (i := i) (by decide)
   have hax := val_take' 18446744073709551616 a i
   have hbx := val_take' 18446744073709551616 b i
   have hlen : (w ++ List.replicate (n + 1 - i) 0).length = n + 1 := by simp; omega
   have hset : ∀ v, (w ++ List.replicate (n + 1 - i) 0).set i v = (w ++ [v]) ++ List.replicate (n + 1 - (i + 1)) 0 := fun v => by
    have := set_fill w (n + 1 - (i + 1)) v
    rw [hw] at this
    rw [show n + 1 - i = n + 1 - (i + 1) + 1 by omega, this]
   refine xRF (jn h0 (jn h1 (jn h20 (jn h6 (jn h21 (jn h5 g)))))) ?_
   refine s_call (limb_spec t a i c4 (by omega)) (yMF (jn h0 h21)) ?_
   rintro v c5 hc5 rfl
   refine xRF (jn h0 (jn h1 (jn h20 (jn h6 (jn h21 (jn h5 g)))))) ?_
   refine s_call (limb_spec u b i c5 (by omega)) (yMF (jn h1 h21)) ?_
   rintro v c6 hc6 rfl
   generalize a.getD i 0 = x at *
   generalize b.getD i 0 = y at *
   have key0 := addb_step (b := 18446744073709551616) (x := y) (y := x) (c' := (x + y + carry) / 18446744073709551616) (d := (x + y + carry) % 18446744073709551616) hw hinv (by have := Nat.mod_add_div (x + y + carry) 18446744073709551616; omega)
   rw [← hax, ← hbx] at key0
   have hml := Nat.mod_lt (x + y + carry) (show 0 < 18446744073709551616 by decide)
   by_cases g1 : (x + y) % 18446744073709551616 < x
   ·obtain ⟨e1, e2⟩ := plus_carry hxi hyi hca g1
    refine xRF (jn h0 (jn h1 (jn h20 (jn h6 (jn h21 (jn h5 (jn g1 (jn hlen (jn hset e2))))))))) ?_
    rw [← e1] at key0
    refine ⟨n + 1 - (i + 1), by omega, i + 1, w ++ [(x + y + carry) % 18446744073709551616], 1, ?_⟩
    (repeat' apply And.intro) <;> first | rfl | exact key0 | exact lim_snoc hlw hml | (simp [hw]; done) | omega | assumption
   ·by_cases g2 : ((x + y) % 18446744073709551616 + carry) % 18446744073709551616 < (x + y) % 18446744073709551616
    ·obtain ⟨e1, e2⟩ := plus_carry2 hxi hyi hca g1 g2
     rw [e2] at g2
     refine xRF (jn h0 (jn h1 (jn h20 (jn h6 (jn h21 (jn h5 (jn g1 (jn g2 (jn hlen (jn hset e2)))))))))) ?_
     rw [← e1] at key0
     refine ⟨n + 1 - (i + 1), by omega, i + 1, w ++ [(x + y + carry) % 18446744073709551616], 1, ?_⟩
     (repeat' apply And.intro) <;> first | rfl | exact key0 | exact lim_snoc hlw hml | (simp [hw]; done) | omega | assumption
    ·obtain ⟨e1, e2⟩ := plus_nocarry hxi hyi hca g1 g2
     rw [e2] at g2
     refine xRF (jn h0 (jn h1 (jn h20 (jn h6 (jn h21 (jn h5 (jn g1 (jn g2 (jn hlen (jn hset e2)))))))))) ?_
     rw [← e1] at key0
     refine ⟨n + 1 - (i + 1), by omega, i + 1, w ++ [(x + y + carry) % 18446744073709551616], 0, ?_⟩
     (repeat' apply And.intro) <;> first | rfl | exact key0 | exact lim_snoc hlw hml | (simp [hw]; done) | omega | assumption
  ·have hi' : i = n + 1 := by omega
   subst hi'
   refine xRF (jn h0 (jn h1 (jn h20 (jn h6 (jn h21 (jn h5 g)))))) ?_
   rw [List.take_of_length_le (l := a) (by omega), List.take_of_length_le (l := b) (by omega)] at hinv
   refine ⟨w, ?_⟩
   have e0 : w ++ List.replicate (n + 1 - (n + 1)) 0 = w := by simp
   rw [e0]
   have hc0 : carry = 0 := by
    rcases Nat.eq_zero_or_pos carry with h | h
    ·exact h
    ·have : carry = 1 := by omega
     rw [this, Nat.mul_one] at hinv
     omega
   rw [hc0, Nat.mul_zero, Nat.add_zero] at hinv
   exact yA
 rintro ⟨ρ3, σ, c5⟩ ⟨w, hw, hlw, hvw, h5, hσ, hc5⟩
 dsimp only at h5 hσ hc5
 subst hσ
 refine v_freeze 5 (t := c) (off := 0) (n := n + 1) (cap := some (n + 1)) (l := w) (ySF h5) yS (by omega) (by omega) ?_
 rw [List.drop_zero, show w.take (n + 1) = w from List.take_of_length_le (by omega)]
 refine xR ?_
 refine s_call (norm_spec (.id c) w c5 hlw (by omega)) yM ?_
 rintro v c6 hc6 ⟨tk, rfl, htk⟩
 rw [hvw]
 refine xR ?_
 exact ⟨tk, rfl, htk.mono (by omega) (by omega)⟩

theorem minus_step {x y o : Nat} (hx : x < 18446744073709551616) (hy : y < 18446744073709551616) (ho : o ≤ 1) (b : Nat) (hb : (x < y ∨ (x = y ∧ o = 1)) ∧ b = 1 ∨ ¬ (x < y ∨ (x = y ∧ o = 1)) ∧ b = 0) :
  ((x + (18446744073709551616 - y % 18446744073709551616)) % 18446744073709551616 + (18446744073709551616 - o % 18446744073709551616)) % 18446744073709551616 + y + o = x + 18446744073709551616 * b ∧ ((x + (18446744073709551616 - y % 18446744073709551616)) % 18446744073709551616 + (18446744073709551616 - o % 18446744073709551616)) % 18446744073709551616 < 18446744073709551616 := by omega
theorem minus_spec (t u : Tok) (a b : List Nat) (c : Nat) (ha : Lim 18446744073709551616 a) (hb : Lim 18446744073709551616 b) (hna : a.length ≤ 1099511627776) (hnb : b.length ≤ a.length) (hle : val 18446744073709551616 b ≤ val 18446744073709551616 a) :
  VSpec Tryz.prog F.dyadic_minus c [nats t a, nats u b] (fun r c' => NatR c c' (val 18446744073709551616 a - val 18446744073709551616 b) r) := by
 refine sG hm G.dyadic_minus ?_
 unfold C.dyadic_minus R.dyadic_minus cD
 refine xR ?_
 refine s_mk (n := a.length) (m := a.length) yS yS (Nat.le_refl _) (by omega) ?_
 refine xR ?_
 refine v_loop (fun S => ∃ w, w.length = a.length ∧ Lim 18446744073709551616 w ∧ val 18446744073709551616 w = val 18446744073709551616 a - val 18446744073709551616 b ∧ S.ρ 5 = .buf c 0 a.length (some a.length) 1 ∧ S.σ = supd noBlk c (nblk w) ∧ c + 1 ≤ S.c) ?_ ?_
 ·refine vwp_loop (fun k S => ∃ i w o, k = a.length - i ∧ i ≤ a.length ∧ w.length = i ∧ Lim 18446744073709551616 w ∧ o ≤ 1 ∧ val 18446744073709551616 w + val 18446744073709551616 (b.take i) = val 18446744073709551616 (a.take i) + 18446744073709551616 ^ i * o ∧ S.ρ 0 = nats t a ∧ S.ρ 1 = nats u b ∧ S.ρ 15 = iv (a.length : Int) ∧ S.ρ 6 = nv o ∧ S.ρ 16 = iv (i : Int) ∧ S.ρ 5 = .buf c 0 a.length (some a.length) 1 ∧ S.σ = supd noBlk c (nblk (w ++ List.replicate (a.length - i) 0)) ∧ c + 1 ≤ S.c) a.length ?_ ?_
  ·refine ⟨0, [], 0, by omega, by omega, ?_⟩
   refine xS ?_
   (repeat' apply And.intro) <;> first | rfl | omega | assumption | exact Lim.nil | (simp [val]; done)
  rintro k ⟨ρ2, σ, c4⟩ ⟨i, w, o, hk, hi, hw, hlw, ho, hinv, h0, h1, h15, h6, h16, h5, hσ, hc4⟩
  dsimp only at h0 h1 h15 h6 h16 h5 hσ hc4
  subst hσ
  by_cases g : (i : Int) < a.length
  ·have hi' : i < a.length := by omega
   have hxi := ha.getD (i := i) (by decide)
   have hyi := hb.getD (i := i) (by decide)
   have hax := val_take' 18446744073709551616 a i
   have hbx := val_take' 18446744073709551616 b i
   have hlen : (w ++ List.replicate (a.length - i) 0).length = a.length := by simp; omega
   have hset : ∀ v, (w ++ List.replicate (a.length - i) 0).set i v = (w ++ [v]) ++ List.replicate (a.length - (i + 1)) 0 := fun v => by
    have := set_fill w (a.length - (i + 1)) v
    rw [hw] at this
    rw [show a.length - i = a.length - (i + 1) + 1 by omega, this]
   refine xRF (jn h0 (jn h1 (jn h15 (jn h6 (jn h16 (jn h5 g)))))) ?_
   refine s_call (limb_spec t a i c4 (by omega)) (yMF (jn h0 h16)) ?_
   rintro v c5 hc5 rfl
   refine xRF (jn h0 (jn h1 (jn h15 (jn h6 (jn h16 (jn h5 g)))))) ?_
   refine s_call (limb_spec u b i c5 (by omega)) (yMF (jn h1 h16)) ?_
   rintro v c6 hc6 rfl
   generalize a.getD i 0 = x at *
   generalize b.getD i 0 = y at *
   by_cases g1 : x < y
   ·obtain ⟨d1, d2⟩ := minus_step hxi hyi ho 1 (.inl ⟨.inl g1, rfl⟩)
    have key := sub_step (b := 18446744073709551616) hw hinv d1
    rw [← hax, ← hbx] at key
    refine xRF (jn h0 (jn h1 (jn h15 (jn h6 (jn h16 (jn h5 (jn g1 (jn hlen hset)))))))) ?_
    generalize ((x + (18446744073709551616 - y % 18446744073709551616)) % 18446744073709551616 + (18446744073709551616 - o % 18446744073709551616)) % 18446744073709551616 = d at *
    refine ⟨a.length - (i + 1), by omega, i + 1, w ++ [d], 1, ?_⟩
    (repeat' apply And.intro) <;> first | rfl | exact key | exact lim_snoc hlw d2 | (simp [hw]; done) | omega | assumption
   ·by_cases g2 : x = y
    ·by_cases g3 : o = 1
     ·obtain ⟨d1, d2⟩ := minus_step hxi hyi ho 1 (.inl ⟨.inr ⟨g2, g3⟩, rfl⟩)
      have key := sub_step (b := 18446744073709551616) hw hinv d1
      rw [← hax, ← hbx] at key
      subst g2 g3
      refine xRF (jn h0 (jn h1 (jn h15 (jn h6 (jn h16 (jn h5 (jn g1 (jn hlen hset)))))))) ?_
      generalize ((x + (18446744073709551616 - x % 18446744073709551616)) % 18446744073709551616 + (18446744073709551616 - 1 % 18446744073709551616)) % 18446744073709551616 = d at *
      refine ⟨a.length - (i + 1), by omega, i + 1, w ++ [d], 1, ?_⟩
      (repeat' apply And.intro) <;> first | rfl | exact key | exact lim_snoc hlw d2 | (simp [hw]; done) | omega | assumption
     ·obtain ⟨d1, d2⟩ := minus_step hxi hyi ho 0 (.inr ⟨by omega, rfl⟩)
      have key := sub_step (b := 18446744073709551616) hw hinv d1
      rw [← hax, ← hbx] at key
      subst g2
      refine xRF (jn h0 (jn h1 (jn h15 (jn h6 (jn h16 (jn h5 (jn g1 (jn g3 (jn hlen hset))))))))) ?_
      generalize ((x + (18446744073709551616 - x % 18446744073709551616)) % 18446744073709551616 + (18446744073709551616 - o % 18446744073709551616)) % 18446744073709551616 = d at *
      refine ⟨a.length - (i + 1), by omega, i + 1, w ++ [d], 0, ?_⟩
      (repeat' apply And.intro) <;> first | rfl | exact key | exact lim_snoc hlw d2 | (simp [hw]; done) | omega | assumption
    ·obtain ⟨d1, d2⟩ := minus_step hxi hyi ho 0 (.inr ⟨by omega, rfl⟩)
     have key := sub_step (b := 18446744073709551616) hw hinv d1
     rw [← hax, ← hbx] at key
     refine xRF (jn h0 (jn h1 (jn h15 (jn h6 (jn h16 (jn h5 (jn g1 (jn g2 (jn hlen hset))))))))) ?_
     generalize ((x + (18446744073709551616 - y % 18446744073709551616)) % 18446744073709551616 + (18446744073709551616 - o % 18446744073709551616)) % 18446744073709551616 = d at *
     refine ⟨a.length - (i + 1), by omega, i + 1, w ++ [d], 0, ?_⟩
     (repeat' apply And.intro) <;> first | rfl | exact key | exact lim_snoc hlw d2 | (simp [hw]; done) | omega | assumption
  ·have hi' : i = a.length := by omega
   subst hi'
   refine xRF (jn h0 (jn h1 (jn h15 (jn h6 (jn h16 (jn h5 g)))))) ?_
   rw [List.take_of_length_le (l := a) (by omega), List.take_of_length_le (l := b) (by omega)] at hinv
   refine ⟨w, ?_⟩
   have e0 : w ++ List.replicate (a.length - a.length) 0 = w := by simp
   rw [e0]
   have hwl := val_lt hlw
   rw [hw] at hwl
   have hc0 : o = 0 := by
    rcases Nat.eq_zero_or_pos o with h | h
    ·exact h
    ·have : o = 1 := by omega
     rw [this, Nat.mul_one] at hinv
     omega
   rw [hc0, Nat.mul_zero, Nat.add_zero] at hinv
   exact yA
 rintro ⟨ρ3, σ, c5⟩ ⟨w, hw, hlw, hvw, h5, hσ, hc5⟩
 dsimp only at h5 hσ hc5
 subst hσ
 refine v_freeze 5 (t := c) (off := 0) (n := a.length) (cap := some a.length) (l := w) (ySF h5) yS (by omega) (by omega) ?_
 rw [List.drop_zero, show w.take a.length = w from List.take_of_length_le (by omega)]
 refine xR ?_
 refine s_call (norm_spec (.id c) w c5 hlw (by omega)) yM ?_
 rintro v c6 hc6 ⟨tk, rfl, htk⟩
 rw [hvw]
 refine xR ?_
 exact ⟨tk, rfl, htk.mono (by omega) (by omega)⟩

theorem shr_two {x s : Nat} (hs : s ≤ 63) : x / 2 ^ (64 - s) = x / 2 / 2 ^ (63 - s) := by
 rw [Nat.div_div_eq_div_mul, show 64 - s = (63 - s) + 1 by omega, Nat.pow_succ, Nat.mul_comm]
theorem left_all (t : Tok) (l : List Nat) (k c : Nat) (hl : Lim 18446744073709551616 l) (hn : l.length ≤ 17179869184) (hk : k ≤ 1099511627776) :
  VSpec Tryz.prog F.dyadic_left c [nats t l, iv (k : Int)] (fun r c' => NatR c c' (val 18446744073709551616 l * 2 ^ k) r) := by
 refine sG hm G.dyadic_left ?_
 unfold C.dyadic_left R.dyadic_left cD
 refine zR ?_
 refine s_call (left_spec t l k c hl (by omega) (by omega)) wS ?_
 rintro v c1 hc1 (⟨_, tk, rfl, htk⟩ | ⟨h, rfl⟩)
 ·refine zR ?_
  exact ⟨tk, rfl, htk⟩
 have hns : ((k : Int) % 64).toNat = k % 64 := by omega
 have hnw : (k : Int) / 64 = ((k / 64 : Nat) : Int) := by omega
 have g3 : ¬ (3 : Int) = 0 := by decide
 refine xRF (jn g3 (jn hns hnw)) ?_
 refine s_mk (n := l.length + k / 64 + 1) (m := l.length + k / 64 + 1) ySr ySr (Nat.le_refl _) (by omega) ?_
 have hs : k % 64 < 64 := Nat.mod_lt _ (by decide)
 have hpow : val 18446744073709551616 l * 2 ^ k = 18446744073709551616 ^ (k / 64) * (val 18446744073709551616 l * 2 ^ (k % 64)) := by
  rw [pow64, Nat.mul_left_comm, ← Nat.pow_add, show 64 * (k / 64) + k % 64 = k by omega]
 generalize k / 64 = wd at *
 generalize k % 64 = s at *
 refine xR ?_
 refine v_loop (fun S => ∃ w, w.length = l.length + wd + 1 ∧ Lim 18446744073709551616 w ∧ val 18446744073709551616 w = val 18446744073709551616 l * 2 ^ k ∧ S.ρ 9 = .buf c1 0 (l.length + wd + 1) (some (l.length + wd + 1)) 1 ∧ S.σ = supd noBlk c1 (nblk w) ∧ c1 + 1 ≤ S.c) ?_ ?_
 ·refine vwp_loop (fun kk S => ∃ i w top, kk = l.length - i ∧ i ≤ l.length ∧ w.length = i ∧ Lim 18446744073709551616 w ∧ top < 2 ^ s ∧ val 18446744073709551616 (w ++ [top]) = val 18446744073709551616 (l.take i) * 2 ^ s ∧ S.ρ 32 = nats t l ∧ S.ρ 7 = iv wd ∧ S.ρ 8 = nv s ∧ S.ρ 33 = iv l.length ∧ S.ρ 34 = iv i ∧ S.ρ 9 = .buf c1 0 (l.length + wd + 1) (some (l.length + wd + 1)) 1 ∧ S.σ = supd noBlk c1 (nblk ((List.replicate wd 0 ++ w) ++ top :: List.replicate (l.length - i) 0)) ∧ c1 + 1 ≤ S.c) l.length ?_ ?_
  ·refine ⟨0, [], 0, by omega, by omega, ?_⟩
   refine xS ?_
   have e0 : List.replicate (l.length + wd + 1) 0 = (List.replicate wd 0 ++ []) ++ 0 :: List.replicate (l.length - 0) 0 := by
    rw [List.append_nil, Nat.sub_zero, show l.length + wd + 1 = wd + (l.length + 1) by omega, ← List.replicate_append_replicate, List.replicate_succ]
   (repeat' apply And.intro) <;> first | rfl | omega | assumption | exact Lim.nil | exact Nat.two_pow_pos s | (simp [val]; done) | (rw [e0])
  rintro kk ⟨ρ2, σ, c4⟩ ⟨i, w, top, hk, hi, hw, hlw, ht, hinv, h32, h7, h8, h33, h34, h9, hσ, hc4⟩
  dsimp only at h32 h7 h8 h33 h34 h9 hσ hc4
  subst hσ
  by_cases g : (i : Int) < l.length
  ·have hi' : i < l.length := by omega
   have hxi := hl.getD (i := i) (by decide)
   obtain ⟨p1, p2, p3⟩ := shl_parts hs hxi
   obtain ⟨o1, o2⟩ := or_top hs hxi ht
   have hlo := Nat.mod_lt (l.getD i 0 * 2 ^ s) (show 0 < 18446744073709551616 by decide)
   have e1 : ((i : Int) + (wd : Int)).toNat = wd + i := by omega
   have e2 : ((i : Int) + (wd : Int) + 1).toNat = wd + i + 1 := by omega
   have e3 : min s 64 = s := by omega
   have e4 : (64 + (18446744073709551616 - s % 18446744073709551616)) % 18446744073709551616 = 64 - s ∨ s = 0 := by omega
   have e5 : min (64 - s) 64 = 64 - s := by omega
   have hps : 2 ^ s ≤ 18446744073709551616 := Nat.le_trans (Nat.pow_le_pow_right (by decide) (show s ≤ 64 by omega)) (by decide)
   have e6 : top % 18446744073709551616 = top := Nat.mod_eq_of_lt (by omega)
   have e8 := shr_two (x := l.getD i 0) (s := s) (by omega)
   have e7 : l.getD i 0 / 2 / 2 ^ (63 - s) % 18446744073709551616 = l.getD i 0 / 2 / 2 ^ (63 - s) := Nat.mod_eq_of_lt (by omega)
   have hl1 : (List.replicate wd 0 ++ w).length = wd + i := by simp; omega
   have hget1 : ((List.replicate wd 0 ++ w) ++ top :: List.replicate (l.length - i) 0).getD (wd + i) 0 = top := by
    rw [← hl1]; exact getD_at _ _ _
   have hlen1 : ((List.replicate wd 0 ++ w) ++ top :: List.replicate (l.length - i) 0).length = l.length + wd + 1 := by simp; omega
   have hset1 : ∀ v, ((List.replicate wd 0 ++ w) ++ top :: List.replicate (l.length - i) 0).set (wd + i) v = ((List.replicate wd 0 ++ w) ++ [v]) ++ 0 :: List.replicate (l.length - (i + 1)) 0 := fun v => by
    rw [← hl1, set_at, show l.length - i = l.length - (i + 1) + 1 by omega, List.replicate_succ]; simp
   have hl2 : ∀ v, ((List.replicate wd 0 ++ w) ++ [v]).length = wd + i + 1 := fun v => by simp; omega
   have hlen2 : ∀ v, (((List.replicate wd 0 ++ w) ++ [v]) ++ 0 :: List.replicate (l.length - (i + 1)) 0).length = l.length + wd + 1 := fun v => by simp; omega
   have hset2 : ∀ v u, (((List.replicate wd 0 ++ w) ++ [v]) ++ 0 :: List.replicate (l.length - (i + 1)) 0).set (wd + i + 1) u = (List.replicate wd 0 ++ (w ++ [v])) ++ u :: List.replicate (l.length - (i + 1)) 0 := fun v u => by
    rw [← hl2 v, set_at, List.append_assoc (List.replicate wd 0)]
   have key := shl_step (i := i) hw hinv p1
   rw [← Nat.mul_assoc, ← Nat.add_mul, ← val_take (l := l) (i := i) hi'] at key
   by_cases g0 : 0 < s
   ·have e4 : (64 + (18446744073709551616 - s % 18446744073709551616)) % 18446744073709551616 = 64 - s := by omega
    refine xRF (jn h32 (jn h7 (jn h8 (jn h33 (jn h34 (jn h9 (jn g (jn g0 (jn e1 (jn e2 (jn e3 (jn e4 (jn e5 (jn hget1 (jn hlen1 (jn hset1 (jn @u_or (jn e6 (jn @Nat.mod_mod (jn o1 (jn hlen2 (jn hset2 (jn e8 e7))))))))))))))))))))))) ?_
    refine ⟨l.length - (i + 1), by omega, i + 1, w ++ [top + l.getD i 0 * 2 ^ s % 18446744073709551616], l.getD i 0 / 2 / 2 ^ (63 - s), ?_⟩
    (repeat' apply And.intro) <;> first | rfl | omega | assumption | (simp [hw]; done) | exact lim_snoc hlw o2 | exact key
   ·have hs0 : s = 0 := by omega
    have ht0 : l.getD i 0 / 2 / 2 ^ (63 - s) = 0 := by rw [← e8, hs0]; exact Nat.div_eq_of_lt hxi
    refine xRF (jn h32 (jn h7 (jn h8 (jn h33 (jn h34 (jn h9 (jn g (jn g0 (jn e1 (jn e2 (jn e3 (jn hget1 (jn hlen1 (jn hset1 (jn @u_or (jn e6 (jn @Nat.mod_mod o1))))))))))))))))) ?_
    refine ⟨l.length - (i + 1), by omega, i + 1, w ++ [top + l.getD i 0 * 2 ^ s % 18446744073709551616], 0, ?_⟩
    rw [ht0] at key
    rw [← List.append_assoc (List.replicate wd 0)]
    (repeat' apply And.intro) <;> first | rfl | omega | assumption | (simp [hw]; done) | exact lim_snoc hlw o2 | exact key | exact Nat.two_pow_pos s
  ·have hi' : i = l.length := by omega
   subst hi'
   refine xRF (jn h32 (jn h7 (jn h8 (jn h33 (jn h34 (jn h9 g)))))) ?_
   rw [List.take_length] at hinv
   have hps : 2 ^ s ≤ 18446744073709551616 := Nat.le_trans (Nat.pow_le_pow_right (by decide) (show s ≤ 64 by omega)) (by decide)
   refine ⟨(List.replicate wd 0 ++ w) ++ [top], ?_⟩
   have e0 : (List.replicate wd 0 ++ w) ++ top :: List.replicate (l.length - l.length) 0 = (List.replicate wd 0 ++ w) ++ [top] := by simp
   rw [e0]
   have hvv : val 18446744073709551616 ((List.replicate wd 0 ++ w) ++ [top]) = val 18446744073709551616 l * 2 ^ k := by
    rw [List.append_assoc, val_zeros, hinv, hpow]
   (repeat' apply And.intro) <;> first | rfl | omega | assumption | (simp [hw]; omega) | exact (Lim.append (Lim.append (Lim.replicate (by decide)) hlw) (.cons (by omega) .nil)) | exact hvv
 rintro ⟨ρ3, σ, c5⟩ ⟨w, hw, hlw, hvw, h9, hσ, hc5⟩
 dsimp only at h9 hσ hc5
 subst hσ
 refine v_freeze 9 (t := c1) (off := 0) (n := l.length + wd + 1) (cap := some (l.length + wd + 1)) (l := w) (ySF h9) yS (by omega) (by omega) ?_
 rw [List.drop_zero, show w.take (l.length + wd + 1) = w from List.take_of_length_le (by omega)]
 refine xR ?_
 refine s_call (norm_spec (.id c1) w c5 hlw (by omega)) yM ?_
 rintro v c6 hc6 ⟨tk, rfl, htk⟩
 rw [hvw]
 refine xR ?_
 exact ⟨tk, rfl, htk.mono (by omega) (by omega)⟩

def WAns (w : Bool × Nat) (r : V) : Prop := (bl w.2 ≤ 67108864 ∧ ∃ tk, r = .tup [whV (zneg w.1 w.2) tk (digs 18446744073709551616 w.2), iv 0]) ∨ (67108864 < bl w.2 ∧ r = .tup [whV false .nil [], iv 3])
theorem zneg_nz {neg : Bool} {n : Nat} (h : n ≠ 0) : zneg neg n = neg := by unfold zneg; rw [decide_eq_false h]; simp
theorem b_eqt : ∀ x : Bool, sbin .eql true (bv x) (bv x) = some (bv true) := fun x => by cases x <;> rfl
theorem b_eqf : ∀ x y : Bool, x ≠ y → sbin .eql true (bv x) (bv y) = some (bv false) := fun x y h => by cases x <;> cases y <;> first | rfl | exact absurd rfl h
theorem b_net : ∀ x : Bool, sbin .neq true (bv x) (bv x) = some (bv false) := fun x => by cases x <;> rfl
theorem b_nef : ∀ x y : Bool, x ≠ y → sbin .neq true (bv x) (bv y) = some (bv true) := fun x y h => by cases x <;> cases y <;> first | rfl | exact absurd rfl h
theorem wnorm_spec (neg : Bool) (t : Tok) (l : List Nat) (c : Nat) (hl : Lim 18446744073709551616 l) (hn : l.length ≤ 4398046511104) :
  VSpec Tryz.prog F.whole_norm c [whV neg t l] (fun r _ => ∃ tk, r = whV (zneg neg (val 18446744073709551616 l)) tk (digs 18446744073709551616 (val 18446744073709551616 l))) := by
 refine sG hm G.whole_norm ?_
 unfold C.whole_norm R.whole_norm cD
 refine zR ?_
 refine s_call (norm_spec t l (c + 2) hl hn) wS ?_
 rintro v c1 hc1 ⟨tk, rfl, htk⟩
 have hz := digs_eq_nil two64 (n := val 18446744073709551616 l)
 cases neg
 ·have e : zneg false (val 18446744073709551616 l) = false := rfl
  rw [e]
  refine zR ?_
  exact ⟨tk, rfl⟩
 ·by_cases g : val 18446744073709551616 l = 0
  ·have e : zneg true (val 18446744073709551616 l) = false := by unfold zneg; rw [decide_eq_true g]; rfl
   have g1 : ¬ (0 : Int) < ((digs 18446744073709551616 (val 18446744073709551616 l)).length : Int) := by rw [hz.2 g]; decide
   rw [e]
   refine zRF g1 ?_
   refine ⟨tk, ?_⟩
   rw [List.length_map, Nat.div_one, decide_eq_false g1]
  ·have e : zneg true (val 18446744073709551616 l) = true := zneg_nz g
   have g1 : (0 : Int) < ((digs 18446744073709551616 (val 18446744073709551616 l)).length : Int) := by
    have : (digs 18446744073709551616 (val 18446744073709551616 l)).length ≠ 0 := fun h => g (hz.1 (List.length_eq_zero_iff.1 h))
    omega
   rw [e]
   refine zRF g1 ?_
   refine ⟨tk, ?_⟩
   rw [List.length_map, Nat.div_one, decide_eq_true g1]
theorem wfits_spec (neg : Bool) (t : Tok) (l : List Nat) (c : Nat) (hl : Lim 18446744073709551616 l) (hn : l.length ≤ 4398046511104) :
  VSpec Tryz.prog F.whole_fits c [whV neg t l] (fun r _ => WAns (neg, val 18446744073709551616 l) r) := by
 refine sG hm G.whole_fits ?_
 unfold C.whole_fits R.whole_fits cD
 refine zR ?_
 refine s_call (length_spec t l (c + 2) hl hn) wS ?_
 rintro v c1 hc1 rfl
 by_cases g : (67108864 : Int) < (bl (val 18446744073709551616 l) : Int)
 ·refine zRF g ?_
  exact .inr ⟨by show 67108864 < bl (val 18446744073709551616 l); omega, rfl⟩
 ·refine zRF g ?_
  refine s_call (wnorm_spec neg t l c1 hl hn) wS ?_
  rintro v c2 hc2 ⟨tk, rfl⟩
  refine zR ?_
  exact .inl ⟨by show bl (val 18446744073709551616 l) ≤ 67108864; omega, tk, rfl⟩
theorem wmake_spec (neg : Bool) (t : Tok) (l : List Nat) (c : Nat) (hl : Lim 18446744073709551616 l) (hn : l.length ≤ 4398046511104) :
  VSpec Tryz.prog F.whole_Make c [bv neg, nats t l] (fun r _ => WAns (neg, val 18446744073709551616 l) r) := by
 refine sG hm G.whole_Make ?_
 unfold C.whole_Make R.whole_Make cD
 refine zR ?_
 refine s_call (wfits_spec neg t l (c + 1) hl hn) wS ?_
 rintro v c1 hc1 (⟨h, tk, rfl⟩ | ⟨h, rfl⟩)
 ·refine zR ?_
  exact .inl ⟨h, tk, rfl⟩
 ·refine zR ?_
  exact .inr ⟨h, rfl⟩
theorem wres_spec (neg : Bool) (t : Tok) (l : List Nat) (c : Nat) (hl : Lim 18446744073709551616 l) (hn : l.length ≤ 4398046511104) :
  VSpec Tryz.prog F.whole_result c [bv neg, nats t l, iv 0] (fun r _ => WAns (neg, val 18446744073709551616 l) r) := by
 refine sG hm G.whole_result ?_
 unfold C.whole_result R.whole_result cD
 refine zR ?_
 refine s_call (wfits_spec neg t l (c + 1) hl hn) wS ?_
 rintro v c1 hc1 (⟨h, tk, rfl⟩ | ⟨h, rfl⟩)
 ·refine zR ?_
  exact .inl ⟨h, tk, rfl⟩
 ·refine zR ?_
  exact .inr ⟨h, rfl⟩
theorem wres_bad (neg : Bool) (t : Tok) (l : List Nat) (c : Nat) :
  VSpec Tryz.prog F.whole_result c [bv neg, nats t l, iv 3] (fun r _ => r = .tup [whV false .nil [], iv 3]) := by
 refine sG hm G.whole_result ?_
 unfold C.whole_result R.whole_result cD
 refine zR ?_
 exact yE
theorem wres_told (neg : Bool) (n c : Nat) {r0 : V} {c0 c1 : Nat} (h : Told c0 c1 n r0) : ∃ t l e, r0 = .tup [nats t l, iv e] ∧ ∀ c, VSpec Tryz.prog F.whole_result c [bv neg, nats t l, iv e] (fun r _ => WAns (neg, n) r) := by
 rcases h with ⟨hb, tk, rfl, _⟩ | ⟨hb, rfl⟩
 ·refine ⟨tk, digs 18446744073709551616 n, 0, rfl, fun c => ?_⟩
  have hln : (digs 18446744073709551616 n).length ≤ 1048576 := digs_len_bl (by omega)
  have h := wres_spec neg tk (digs 18446744073709551616 n) c (lim_digs two64 n) (by omega)
  rw [val_digs two64] at h
  exact h
 ·exact ⟨.nil, [], 3, rfl, fun c => (wres_bad neg .nil [] c).mono fun r c' e => .inr ⟨hb, e⟩⟩

theorem wadd_spec (an bn : Bool) (ta tb : Tok) (a b : List Nat) (c : Nat) (ha : Lim 18446744073709551616 a) (hb : Lim 18446744073709551616 b) (hna : a.length ≤ 1099511627776) (hnb : b.length ≤ 1099511627776) (a0 : val 18446744073709551616 a ≠ 0) (b0 : val 18446744073709551616 b ≠ 0) :
  VSpec Tryz.prog F.whole_Add c [whV an ta a, whV bn tb b] (fun r _ => WAns (addW an (val 18446744073709551616 a) bn (val 18446744073709551616 b)) r) := by
 refine sG hm G.whole_Add ?_
 unfold C.whole_Add R.whole_Add cD
 have hla := digs_len_le two64 ha
 have hlb := digs_len_le two64 hb
 refine zR ?_
 refine s_call (wnorm_spec an ta a (c + 3) ha (by omega)) wS ?_
 rintro v c1 hc1 ⟨t1, rfl⟩
 refine zR ?_
 refine s_call (wnorm_spec bn tb b c1 hb (by omega)) wS ?_
 rintro v c2 hc2 ⟨t2, rfl⟩
 rw [zneg_nz a0, zneg_nz b0]
 have hx := lim_digs two64 (val 18446744073709551616 a)
 have hy := lim_digs two64 (val 18446744073709551616 b)
 have vx := val_digs two64 (val 18446744073709551616 a)
 have vy := val_digs two64 (val 18446744073709551616 b)
 generalize val 18446744073709551616 a = A0 at *
 generalize val 18446744073709551616 b = B0 at *
 by_cases g : an = bn
 ·subst g
  have e : addW an A0 an B0 = (an, A0 + B0) := if_pos rfl
  rw [e]
  refine zRF @b_eqt ?_
  refine s_call (add_spec t1 t2 (digs 18446744073709551616 A0) (digs 18446744073709551616 B0) c2 hx hy (by omega) (by omega)) wS ?_
  rintro v c3 hc3 ht
  rw [vx, vy] at ht
  obtain ⟨t3, l3, e3, rfl, hr⟩ := wres_told an (A0 + B0) c3 ht
  refine zR ?_
  refine s_call (hr c3) wS ?_
  rintro v c4 hc4 (⟨h, tk, rfl⟩ | ⟨h, rfl⟩)
  ·refine zR ?_
   exact .inl ⟨h, tk, rfl⟩
  ·refine zR ?_
   exact .inr ⟨h, rfl⟩
 ·have en := b_eqf an bn g
  refine zRF en ?_
  refine s_call (compare_spec t1 t2 (digs 18446744073709551616 A0) (digs 18446744073709551616 B0) c2 hx hy (by omega) (by omega)) wS ?_
  rintro v c3 hc3 rfl
  rw [vx, vy]
  have hcc := cmpI_cases A0 B0
  by_cases h : A0 < B0
  ·have g1 : cmpI A0 B0 < 0 := by omega
   have e : addW an A0 bn B0 = (bn, B0 - A0) := by unfold addW; rw [if_neg g, if_pos h]
   rw [e]
   refine zRF g1 ?_
   refine s_call (sub_spec t2 t1 (digs 18446744073709551616 B0) (digs 18446744073709551616 A0) c3 hy hx (by omega) (by omega)) wS ?_
   rintro v c4 hc4 ht
   rw [vx, vy, if_neg (by omega)] at ht
   obtain ⟨t3, l3, e3, rfl, hr⟩ := wres_told bn (B0 - A0) c4 ht
   refine zR ?_
   refine s_call (hr c4) wS ?_
   rintro v c5 hc5 (⟨h, tk, rfl⟩ | ⟨h, rfl⟩)
   ·refine zR ?_
    exact .inl ⟨h, tk, rfl⟩
   ·refine zR ?_
    exact .inr ⟨h, rfl⟩
  ·have g1 : ¬ cmpI A0 B0 < 0 := by omega
   have e : addW an A0 bn B0 = (an, A0 - B0) := by unfold addW; rw [if_neg g, if_neg h]
   rw [e]
   refine zRF g1 ?_
   refine s_call (sub_spec t1 t2 (digs 18446744073709551616 A0) (digs 18446744073709551616 B0) c3 hx hy (by omega) (by omega)) wS ?_
   rintro v c4 hc4 ht
   rw [vx, vy, if_neg (by omega)] at ht
   obtain ⟨t3, l3, e3, rfl, hr⟩ := wres_told an (A0 - B0) c4 ht
   refine zR ?_
   refine s_call (hr c4) wS ?_
   rintro v c5 hc5 (⟨h, tk, rfl⟩ | ⟨h, rfl⟩)
   ·refine zR ?_
    exact .inl ⟨h, tk, rfl⟩
   ·refine zR ?_
    exact .inr ⟨h, rfl⟩

theorem len_bl {n : Nat} (h : bl n ≤ 1099511627776) : (digs 18446744073709551616 n).length ≤ 17179869184 := digs_len_bl (by omega)
theorem long_spec (tx ty : Tok) (x y : Dy) (k c : Nat) (hk : x.e - y.e = (k : Int)) (hx : x.m % 2 = 1) (hy : y.m % 2 = 1) (hxb : bl x.m ≤ 67108864) (hyb : bl y.m ≤ 67108864) (hX : bl (x.m * 2 ^ k) ≤ 67108900) (hk2 : k ≤ 67108900)
  (he1 : -2305843009213693952 ≤ y.e) (he2 : y.e ≤ 2305843009213693952) :
  VSpec Tryz.prog F.dyadic_long c [dyV tx x, dyV ty y] (fun r c' => AnsD c c' (addD x y) r) := by
 refine sG hm G.dyadic_long ?_
 unfold C.dyadic_long R.dyadic_long cD
 have hkn : (x.e - y.e).toNat = k := by omega
 have hfit := sum_fit (x := x) (y := y) (by omega) hx hy hxb hyb
 have had := addD_sumW (x := x) (y := y) (by omega)
 have hsb := sum_bl (x := x) (y := y) (k := 67108900) (by omega) (by rw [hkn]; exact hX) (by omega)
 unfold sumW at hfit had hsb
 rw [hkn] at hfit had hsb
 have lx := lim_digs two64 x.m
 have ly := lim_digs two64 y.m
 have vx := val_digs two64 x.m
 have vy := val_digs two64 y.m
 have nx : (digs 18446744073709551616 x.m).length ≤ 1048576 := digs_len_bl (by omega)
 have ny : (digs 18446744073709551616 y.m).length ≤ 1048576 := digs_len_bl (by omega)
 have hkB : -9223372036854775808 ≤ x.e - y.e := by omega
 refine zRF hk ?_
 refine s_call (left_all tx (digs 18446744073709551616 x.m) k (c + 3) lx (by omega) (by omega)) (wSF hk) ?_
 rintro v c1 hc1 ⟨tl, rfl, htl⟩
 rw [vx]
 have lX := lim_digs two64 (x.m * 2 ^ k)
 have vX := val_digs two64 (x.m * 2 ^ k)
 have nX : (digs 18446744073709551616 (x.m * 2 ^ k)).length ≤ 1048600 := digs_len_bl (by omega)
 generalize x.m * 2 ^ k = X at *
 by_cases g : x.neg = y.neg
 ·have e : addW x.neg X y.neg y.m = (x.neg, X + y.m) := if_pos g
  rw [e] at had hfit hsb
  have en : sbin .neq true (bv x.neg) (bv y.neg) = some (bv false) := by rw [g]; exact b_net _
  refine zRF en ?_
  refine s_call (plus_spec tl ty (digs 18446744073709551616 X) (digs 18446744073709551616 y.m) c1 lX ly (by omega) (by omega)) wS ?_
  rintro v c2 hc2 ⟨ts, rfl, hts⟩
  rw [vX, vy]
  refine zR ?_
  refine s_call (dtold_spec x.neg ts (digs 18446744073709551616 (X + y.m)) y.e c2 (lim_digs two64 _) (len_bl (by show bl (X + y.m) ≤ _; have : bl (X + y.m) ≤ 67108900 + 1 := hsb; omega)) he1 he2 (by rw [val_digs two64]; exact hfit)) wS ?_
  rintro v c3 hc3 ⟨tk, rfl, htk⟩
  rw [val_digs two64] at htk
  rw [val_digs two64]
  refine zR ?_
  exact ⟨tk, by rw [had], by rw [had]; exact htk.mono (by omega) (by omega)⟩
 ·have en := b_nef x.neg y.neg g
  refine zRF en ?_
  refine s_call (compare_spec tl ty (digs 18446744073709551616 X) (digs 18446744073709551616 y.m) c1 lX ly (by omega) (by omega)) wS ?_
  rintro v c2 hc2 rfl
  rw [vX, vy]
  have hcc := cmpI_cases X y.m
  by_cases h : X < y.m
  ·have g1 : cmpI X y.m < 0 := by omega
   have e : addW x.neg X y.neg y.m = (y.neg, y.m - X) := by unfold addW; rw [if_neg g, if_pos h]
   have eb : (!x.neg) = y.neg := by cases hxn : x.neg <;> cases hyn : y.neg <;> first | rfl | exact absurd (hxn.trans hyn.symm) g
   rw [e] at had hfit hsb
   refine zRF (jn g1 eb) ?_
   refine s_call (minus_spec ty tl (digs 18446744073709551616 y.m) (digs 18446744073709551616 X) c2 ly lX (by omega) (le_len two64 (by omega)) (by rw [vX, vy]; omega)) wS ?_
   rintro v c3 hc3 ⟨ts, rfl, hts⟩
   rw [vX, vy]
   refine zR ?_
   refine s_call (dtold_spec y.neg ts (digs 18446744073709551616 (y.m - X)) y.e c3 (lim_digs two64 _) (len_bl (by have : bl (y.m - X) ≤ 67108900 + 1 := hsb; omega)) he1 he2 (by rw [val_digs two64]; exact hfit)) wS ?_
   rintro v c4 hc4 ⟨tk, rfl, htk⟩
   rw [val_digs two64] at htk
   rw [val_digs two64]
   refine zR ?_
   exact ⟨tk, by rw [had], by rw [had]; exact htk.mono (by omega) (by omega)⟩
  ·have g1 : ¬ cmpI X y.m < 0 := by omega
   have e : addW x.neg X y.neg y.m = (x.neg, X - y.m) := by unfold addW; rw [if_neg g, if_neg h]
   rw [e] at had hfit hsb
   refine zRF g1 ?_
   refine s_call (minus_spec tl ty (digs 18446744073709551616 X) (digs 18446744073709551616 y.m) c2 lX ly (by omega) (le_len two64 (by omega)) (by rw [vX, vy]; omega)) wS ?_
   rintro v c3 hc3 ⟨ts, rfl, hts⟩
   rw [vX, vy]
   refine zR ?_
   refine s_call (dtold_spec x.neg ts (digs 18446744073709551616 (X - y.m)) y.e c3 (lim_digs two64 _) (len_bl (by have : bl (X - y.m) ≤ 67108900 + 1 := hsb; omega)) he1 he2 (by rw [val_digs two64]; exact hfit)) wS ?_
   rintro v c4 hc4 ⟨tk, rfl, htk⟩
   rw [val_digs two64] at htk
   rw [val_digs two64]
   refine zR ?_
   exact ⟨tk, by rw [had], by rw [had]; exact htk.mono (by omega) (by omega)⟩

structure NumR (d : Dy) : Prop where
 sh : d.m = 0 ∨ d.m % 2 = 1
 bits : bl d.m ≤ 67108864
 lo : -2199023255552 ≤ d.e
 hi : d.e ≤ 2199023255552
def cl (d : Dy) : Dy := if d.m = 0 then dy0 else d
theorem cl_dyOf {d : Dy} (h : NumR d) : dyOf d.neg d.m d.e = cl d := by
 unfold cl
 by_cases g : d.m = 0
 ·unfold dyOf; rw [if_pos g, if_pos g]
 ·rw [if_neg g, dyOf_odd (by have := h.sh; omega)]
theorem cl_ok {d : Dy} (h : NumR d) : (cl d).Ok := by rw [← cl_dyOf h]; exact dyOf_ok _ _ _
theorem Num.R {d : Dy} (h : Num d) : NumR d := ⟨h.ok.odd, h.bits, h.lo, h.hi⟩
theorem cl_num {d : Dy} (h : Num d) : cl d = d := by
 unfold cl
 split
 ·rename_i g; exact (h.ok.zero g).symm
 ·rfl
theorem told_r (t : Tok) (x : Dy) (c : Nat) (hx : NumR x) : VSpec Tryz.prog F.dyadic_told c [whV x.neg t (digs 18446744073709551616 x.m), iv x.e] (fun r c' => AnsD c c' (cl x) r) := by
 have nx : (digs 18446744073709551616 x.m).length ≤ 1048576 := digs_len_bl (by have := hx.bits; omega)
 have h := dtold_spec x.neg t (digs 18446744073709551616 x.m) x.e c (lim_digs two64 x.m) (by omega) (by have := hx.lo; omega) (by have := hx.hi; omega) (by
  rw [val_digs two64]
  exact .inr (Nat.le_trans (bl_od _) hx.bits))
 rw [val_digs two64, cl_dyOf hx] at h
 exact h
theorem dsum_spec (tx ty : Tok) (x y : Dy) (c : Nat) (hx : NumR x) (hy : NumR y) :
  VSpec Tryz.prog F.dyadic_sum c [dyV tx x, dyV ty y] (fun r c' => AnsD c c' (addD (cl x) (cl y)) r) := by
 refine sG hm G.dyadic_sum ?_
 unfold C.dyadic_sum R.dyadic_sum cD
 have lx := lim_digs two64 x.m
 have ly := lim_digs two64 y.m
 have vx := val_digs two64 x.m
 have vy := val_digs two64 y.m
 have bx := hx.bits
 have by' := hy.bits
 have nx : (digs 18446744073709551616 x.m).length ≤ 1048576 := digs_len_bl (by omega)
 have ny : (digs 18446744073709551616 y.m).length ≤ 1048576 := digs_len_bl (by omega)
 refine zR ?_
 refine s_call (psign_spec x.neg tx (digs 18446744073709551616 x.m) (c + 3) lx (by omega)) wS ?_
 rintro v c1 hc1 rfl
 rw [vx]
 by_cases gx : x.m = 0
 ·have e0 : sgW x.neg x.m = 0 := by unfold sgW; rw [if_pos gx]
  have ea : addD (cl x) (cl y) = cl y := addD_zero (cl_ok hy) (by unfold cl; rw [if_pos gx])
  rw [ea]
  refine zRF e0 ?_
  refine s_call (psign_spec x.neg tx (digs 18446744073709551616 x.m) c1 lx (by omega)) wS ?_
  rintro v c2 hc2 rfl
  rw [vx]
  refine zRF e0 ?_
  refine s_call (told_r ty y c2 hy) wS ?_
  rintro v c3 hc3 ⟨tk, rfl, htk⟩
  refine zR ?_
  exact ⟨tk, rfl, htk.mono (by omega) (by omega)⟩
 have e0 : ¬ sgW x.neg x.m = 0 := by unfold sgW; rw [if_neg gx]; split <;> decide
 refine zRF e0 ?_
 refine s_call (psign_spec y.neg ty (digs 18446744073709551616 y.m) c1 ly (by omega)) wS ?_
 rintro v c2 hc2 rfl
 rw [vy]
 by_cases gy : y.m = 0
 ·have e1 : sgW y.neg y.m = 0 := by unfold sgW; rw [if_pos gy]
  have ea : addD (cl x) (cl y) = cl x := addD_comm0 (cl_ok hx) (by unfold cl; rw [if_pos gy]; rfl) (cl_ok hy)
  rw [ea]
  refine zRF e1 ?_
  refine s_call (told_r tx x c2 hx) wS ?_
  rintro v c3 hc3 ⟨tk, rfl, htk⟩
  refine zR ?_
  exact ⟨tk, rfl, htk.mono (by omega) (by omega)⟩
 have e1 : ¬ sgW y.neg y.m = 0 := by unfold sgW; rw [if_neg gy]; split <;> decide
 have ex : cl x = x := if_neg gx
 have ey : cl y = y := if_neg gy
 have ox : x.m % 2 = 1 := hx.sh.resolve_left gx
 have oy : y.m % 2 = 1 := hy.sh.resolve_left gy
 have hlx := hx.lo
 have hhx := hx.hi
 have hly := hy.lo
 have hhy := hy.hi
 rw [ex, ey]
 refine zSF e1 ?_
 refine v_cond ?_
 refine zSF e1 ?_
 refine vwp_skip ?_
 refine zS ?_
 refine v_cut (fun S => ∃ x' y' : Dy, ∃ tx' ty' : Tok, x'.m % 2 = 1 ∧ y'.m % 2 = 1 ∧ bl x'.m ≤ 67108864 ∧ bl y'.m ≤ 67108864 ∧ -2199023255552 ≤ x'.e ∧ x'.e ≤ 2199023255552 ∧ -2199023255552 ≤ y'.e ∧ y'.e ≤ 2199023255552 ∧ y'.e ≤ x'.e ∧ addD x' y' = addD x y ∧ S.ρ 2 = .ptr c 0 ∧ S.ρ 3 = .ptr (c + 1) 0 ∧ S.ρ 4 = .ptr (c + 2) 0 ∧ S.σ c = some ⟨[bv x'.neg, nats tx' (digs 18446744073709551616 x'.m), iv x'.e], true⟩ ∧ S.σ (c + 1) = some ⟨[bv y'.neg, nats ty' (digs 18446744073709551616 y'.m), iv y'.e], true⟩ ∧ S.σ (c + 2) = some ⟨[bv false, .sl .nil 1 [], iv 0], true⟩ ∧ (∀ q, S.c ≤ q → S.σ q = none) ∧ c2 ≤ S.c) ?_ ?_
 ·by_cases g : x.e < y.e
  ·refine zRF g ?_
   refine ⟨y, x, ty, tx, oy, ox, by', bx, hly, hhy, hlx, hhx, by omega, addD_comm y x, ?_⟩
   (repeat' apply And.intro) <;> first | rfl | omega | assumption | (intro q hq; rw [if_neg (by omega), if_neg (by omega), if_neg (by omega)]; rfl)
  ·refine zRF g ?_
   refine ⟨x, y, tx, ty, ox, oy, bx, by', hlx, hhx, hly, hhy, by omega, rfl, ?_⟩
   (repeat' apply And.intro) <;> first | rfl | omega | assumption | (intro q hq; rw [if_neg (by omega), if_neg (by omega), if_neg (by omega)]; rfl)
 rintro ⟨ρ, σ, c3⟩ ⟨x', y', tx', ty', ox', oy', bx', by2, l1, l2, l3, l4, hee, had, r2, r3, r4, s0, s1, s2, hfr, hc3⟩
 dsimp only at r2 r3 r4 s0 s1 s2 hfr hc3
 rw [← had]
 clear had ex ey e0 e1 lx ly vx vy bx by' nx ny ox oy hlx hhx hly hhy hx hy gx gy
 obtain ⟨k, hk⟩ : ∃ k : Nat, x'.e - y'.e = (k : Int) := ⟨(x'.e - y'.e).toNat, by omega⟩
 have hkn : (x'.e - y'.e).toNat = k := by omega
 have lx := lim_digs two64 x'.m
 have ly := lim_digs two64 y'.m
 have vx := val_digs two64 x'.m
 have vy := val_digs two64 y'.m
 have nx : (digs 18446744073709551616 x'.m).length ≤ 1048576 := digs_len_bl (by omega)
 have ny : (digs 18446744073709551616 y'.m).length ≤ 1048576 := digs_len_bl (by omega)
 have Nx : Num x' := ⟨⟨.inr ox', fun h => by omega⟩, bx', l1, l2⟩
 have Ny : Num y' := ⟨⟨.inr oy', fun h => by omega⟩, by2, l3, l4⟩
 have hbk := bl_shl (x := x'.m) (k := k) (by omega)
 have etx : x'.top = x'.e + (bl x'.m : Int) - 1 := rfl
 have ety : y'.top = y'.e + (bl y'.m : Int) - 1 := rfl
 have hbx0 : 0 < bl x'.m := bl_pos (by omega)
 by_cases k0 : (0 : Int) < (k : Int)
 ·obtain ⟨m, hmx, hmv⟩ : ∃ m : Int, max x'.top (y'.top + 1) = m ∧ (m = x'.top ∨ m = y'.top + 1) ∧ x'.top ≤ m ∧ y'.top + 1 ≤ m := by
   by_cases g : x'.top < y'.top + 1
   ·exact ⟨y'.top + 1, by omega, .inr rfl, by omega, by omega⟩
   ·exact ⟨x'.top, by omega, .inl rfl, by omega, by omega⟩
  refine zRF (jn r2 (jn r3 (jn r4 (jn s0 (jn s1 (jn s2 (jn hk k0))))))) ?_
  refine s_call (top_spec tx' x' c3 Nx) (wSF (jn r2 (jn r3 (jn r4 (jn s0 (jn s1 s2)))))) ?_
  rintro v c4 hc4 rfl
  refine zRF (jn r2 (jn r3 (jn r4 (jn s0 (jn s1 (jn s2 (jn hk k0))))))) ?_
  refine s_call (top_spec ty' y' c4 Ny) (wSF (jn r2 (jn r3 (jn r4 (jn s0 (jn s1 s2)))))) ?_
  rintro v c5 hc5 rfl
  by_cases gb : (67108866 : Int) < m - y'.e
  ·refine zRF (jn r2 (jn r3 (jn r4 (jn s0 (jn s1 (jn s2 (jn hk (jn k0 (jn hmx gb))))))))) ?_
   have hf := sum_far (x := x') (y := y') (k := 67108864) (by omega) oy' by2 (by rw [hkn, hbk]; omega)
   have ht : tE (addD x' y') = 3 := if_pos hf
   refine ⟨.nil, ?_, .inl ⟨rfl, ?_⟩⟩
   ·rw [ansD_bad (by rw [ht]; decide), ht]; rfl
   ·rw [ansD_bad (by rw [ht]; decide)]; rfl
  have hX : bl (x'.m * 2 ^ k) ≤ 67108900 := by rw [hbk]; omega
  have hk2 : k ≤ 67108900 := by omega
  refine zRF (jn r2 (jn r3 (jn r4 (jn s0 (jn s1 (jn s2 (jn hk (jn k0 (jn hmx gb))))))))) ?_
  refine s_call (left_all tx' (digs 18446744073709551616 x'.m) k c5 lx (by omega) (by omega)) (wSF (jn r2 (jn r3 (jn r4 (jn s0 (jn s1 (jn s2 hk))))))) ?_
  rintro v c6 hc6 ⟨tl, rfl, htl⟩
  rw [vx]
  have lX := lim_digs two64 (x'.m * 2 ^ k)
  have vX := val_digs two64 (x'.m * 2 ^ k)
  have nX : (digs 18446744073709551616 (x'.m * 2 ^ k)).length ≤ 1048600 := digs_len_bl (by omega)
  have X0 : x'.m * 2 ^ k ≠ 0 := Nat.mul_ne_zero (by omega) (Nat.ne_of_gt (Nat.two_pow_pos k))
  have hlong := fun c => long_spec tx' ty' x' y' k c hk ox' oy' bx' by2 hX hk2 (by omega) (by omega)
  have hfit := sum_fit (x := x') (y := y') hee ox' oy' bx' by2
  have hsum := addD_sumW (x := x') (y := y') hee
  unfold sumW at hfit hsum
  rw [hkn] at hfit hsum
  generalize x'.m * 2 ^ k = X at *
  refine zRF (jn r2 (jn r3 (jn r4 (jn s0 (jn s1 s2))))) ?_
  refine s_call (wmake_spec x'.neg tl (digs 18446744073709551616 X) c6 lX (by omega)) (wSF (jn r2 (jn r3 (jn r4 (jn s0 (jn s1 s2)))))) ?_
  rintro v c7 hc7 hw7
  have f7 : σ c7 = none := hfr c7 (by omega)
  rcases hw7 with ⟨hb, tk, rfl⟩ | ⟨hb, rfl⟩
  ·simp only [vX] at hb ⊢
   have ez : zneg x'.neg X = x'.neg := zneg_nz X0
   refine zRF (jn r2 (jn r3 (jn r4 (jn s0 (jn s1 (jn s2 (jn ez f7))))))) ?_
   refine s_call (wadd_spec x'.neg y'.neg tk ty' (digs 18446744073709551616 X) (digs 18446744073709551616 y'.m) (c7 + 1) lX ly (by omega) (by omega) (by rw [vX]; exact X0) (by rw [vy]; omega)) (wSF (jn r2 (jn r3 (jn r4 (jn s0 (jn s1 (jn s2 ez))))))) ?_
   rintro v c8 hc8 (⟨hb2, tk2, rfl⟩ | ⟨hb2, rfl⟩)
   ·simp only [vX, vy] at hb2 ⊢
    refine zRF (jn r2 (jn r3 (jn r4 (jn s0 (jn s1 s2))))) ?_
    refine s_call (dtold_spec (zneg (addW x'.neg X y'.neg y'.m).1 (addW x'.neg X y'.neg y'.m).2) tk2 (digs 18446744073709551616 (addW x'.neg X y'.neg y'.m).2) y'.e (c8 + 1) (lim_digs two64 _) (len_bl (by omega)) (by omega) (by omega) (by rw [val_digs two64]; exact hfit)) (wSF (jn r2 (jn r3 (jn r4 (jn s0 (jn s1 s2)))))) ?_
    rintro v c9 hc9 ⟨tq, rfl, htq⟩
    rw [val_digs two64, dyOf_zneg, ← hsum] at htq
    rw [val_digs two64, dyOf_zneg, ← hsum]
    refine zRF (jn r2 (jn r3 (jn r4 (jn s0 (jn s1 s2))))) ?_
    exact ⟨tq, rfl, htq.mono (by omega) (by omega)⟩
   ·refine zRF (jn r2 (jn r3 (jn r4 (jn s0 (jn s1 s2))))) ?_
    refine s_call (hlong (c8 + 1)) (wSF (jn r2 (jn r3 (jn r4 (jn s0 (jn s1 s2)))))) ?_
    rintro v c9 hc9 ⟨tq, rfl, htq⟩
    refine zRF (jn r2 (jn r3 (jn r4 (jn s0 (jn s1 s2))))) ?_
    exact ⟨tq, rfl, htq.mono (by omega) (by omega)⟩
  ·refine zRF (jn r2 (jn r3 (jn r4 (jn s0 (jn s1 (jn s2 f7)))))) ?_
   refine s_call (hlong (c7 + 1)) (wSF (jn r2 (jn r3 (jn r4 (jn s0 (jn s1 s2)))))) ?_
   rintro v c8 hc8 ⟨tq, rfl, htq⟩
   refine zRF (jn r2 (jn r3 (jn r4 (jn s0 (jn s1 s2))))) ?_
   exact ⟨tq, rfl, htq.mono (by omega) (by omega)⟩
 ·have hk00 : k = 0 := by omega
  have hX : bl (x'.m * 2 ^ k) ≤ 67108900 := by rw [hbk]; omega
  have hk2 : k ≤ 67108900 := by omega
  refine zRF (jn r2 (jn r3 (jn r4 (jn s0 (jn s1 (jn s2 (jn hk k0))))))) ?_
  refine s_call (left_all tx' (digs 18446744073709551616 x'.m) k c3 lx (by omega) (by omega)) (wSF (jn r2 (jn r3 (jn r4 (jn s0 (jn s1 (jn s2 hk))))))) ?_
  rintro v c6 hc6 ⟨tl, rfl, htl⟩
  rw [vx]
  have lX := lim_digs two64 (x'.m * 2 ^ k)
  have vX := val_digs two64 (x'.m * 2 ^ k)
  have nX : (digs 18446744073709551616 (x'.m * 2 ^ k)).length ≤ 1048600 := digs_len_bl (by omega)
  have X0 : x'.m * 2 ^ k ≠ 0 := Nat.mul_ne_zero (by omega) (Nat.ne_of_gt (Nat.two_pow_pos k))
  have hlong := fun c => long_spec tx' ty' x' y' k c hk ox' oy' bx' by2 hX hk2 (by omega) (by omega)
  have hfit := sum_fit (x := x') (y := y') hee ox' oy' bx' by2
  have hsum := addD_sumW (x := x') (y := y') hee
  unfold sumW at hfit hsum
  rw [hkn] at hfit hsum
  generalize x'.m * 2 ^ k = X at *
  refine zRF (jn r2 (jn r3 (jn r4 (jn s0 (jn s1 s2))))) ?_
  refine s_call (wmake_spec x'.neg tl (digs 18446744073709551616 X) c6 lX (by omega)) (wSF (jn r2 (jn r3 (jn r4 (jn s0 (jn s1 s2)))))) ?_
  rintro v c7 hc7 hw7
  have f7 : σ c7 = none := hfr c7 (by omega)
  rcases hw7 with ⟨hb, tk, rfl⟩ | ⟨hb, rfl⟩
  ·simp only [vX] at hb ⊢
   have ez : zneg x'.neg X = x'.neg := zneg_nz X0
   refine zRF (jn r2 (jn r3 (jn r4 (jn s0 (jn s1 (jn s2 (jn ez f7))))))) ?_
   refine s_call (wadd_spec x'.neg y'.neg tk ty' (digs 18446744073709551616 X) (digs 18446744073709551616 y'.m) (c7 + 1) lX ly (by omega) (by omega) (by rw [vX]; exact X0) (by rw [vy]; omega)) (wSF (jn r2 (jn r3 (jn r4 (jn s0 (jn s1 (jn s2 ez))))))) ?_
   rintro v c8 hc8 (⟨hb2, tk2, rfl⟩ | ⟨hb2, rfl⟩)
   ·simp only [vX, vy] at hb2 ⊢
    refine zRF (jn r2 (jn r3 (jn r4 (jn s0 (jn s1 s2))))) ?_
    refine s_call (dtold_spec (zneg (addW x'.neg X y'.neg y'.m).1 (addW x'.neg X y'.neg y'.m).2) tk2 (digs 18446744073709551616 (addW x'.neg X y'.neg y'.m).2) y'.e (c8 + 1) (lim_digs two64 _) (len_bl (by omega)) (by omega) (by omega) (by rw [val_digs two64]; exact hfit)) (wSF (jn r2 (jn r3 (jn r4 (jn s0 (jn s1 s2)))))) ?_
    rintro v c9 hc9 ⟨tq, rfl, htq⟩
    rw [val_digs two64, dyOf_zneg, ← hsum] at htq
    rw [val_digs two64, dyOf_zneg, ← hsum]
    refine zRF (jn r2 (jn r3 (jn r4 (jn s0 (jn s1 s2))))) ?_
    exact ⟨tq, rfl, htq.mono (by omega) (by omega)⟩
   ·refine zRF (jn r2 (jn r3 (jn r4 (jn s0 (jn s1 s2))))) ?_
    refine s_call (hlong (c8 + 1)) (wSF (jn r2 (jn r3 (jn r4 (jn s0 (jn s1 s2)))))) ?_
    rintro v c9 hc9 ⟨tq, rfl, htq⟩
    refine zRF (jn r2 (jn r3 (jn r4 (jn s0 (jn s1 s2))))) ?_
    exact ⟨tq, rfl, htq.mono (by omega) (by omega)⟩
  ·refine zRF (jn r2 (jn r3 (jn r4 (jn s0 (jn s1 (jn s2 f7)))))) ?_
   refine s_call (hlong (c7 + 1)) (wSF (jn r2 (jn r3 (jn r4 (jn s0 (jn s1 s2)))))) ?_
   rintro v c8 hc8 ⟨tq, rfl, htq⟩
   refine zRF (jn r2 (jn r3 (jn r4 (jn s0 (jn s1 s2))))) ?_
   exact ⟨tq, rfl, htq.mono (by omega) (by omega)⟩

theorem DAdd_spec (ta tb : Tok) (a b : RD) (c : Nat) (ha : a.Ok) (hb : b.Ok) : VSpec Tryz.prog F.dyadic_Add c [rdV ta a, rdV tb b] (fun r c' => AnsD c c' (addD a.d b.d) r) := by
 refine sG hm G.dyadic_Add ?_
 unfold C.dyadic_Add R.dyadic_Add cD
 refine zR ?_
 refine s_call (two_spec a.neg b.neg ta tb a.l b.l a.e b.e (c + 3) ha.arg hb.arg ha.fit hb.fit) wS ?_
 rintro v c1 hc1 ⟨tx, ty, cm, h1, h2, rfl, _, _⟩
 refine zR ?_
 refine s_call (dsum_spec tx ty a.d b.d (c1 + 2) ha.num.R hb.num.R) wSr ?_
 rw [cl_num ha.num, cl_num hb.num]
 rintro v c2 hc2 ⟨tk, rfl, htk⟩
 refine zR ?_
 exact ⟨tk, rfl, htk.mono (by omega) (by omega)⟩
def rQ (x : Dy) (k : Nat) (up : Bool) : Nat := x.m / 2 ^ k + (if up = x.neg then 0 else 1)
theorem div_small {m k : Nat} (h : bl m ≤ k) : m / 2 ^ k = 0 := Nat.div_eq_of_lt (lt_of_bl h)
theorem rQ_bl {x : Dy} {k K : Nat} {up : Bool} (hk : 0 < k) (hK : 0 < K) (hb : bl x.m ≤ K + 1) : bl (rQ x k up) ≤ K + 1 := by
 unfold rQ
 obtain ⟨j, rfl⟩ : ∃ j, k = j + 1 := ⟨k - 1, by omega⟩
 have h1 : bl (x.m / 2 ^ (j + 1)) ≤ K := by
  rw [Nat.pow_succ, Nat.mul_comm, ← Nat.div_div_eq_div_mul]
  exact Nat.le_trans (bl_mono (Nat.div_le_self _ _)) (bl_halfK hb)
 have h2 : bl (if up = x.neg then 0 else 1) ≤ K := by
  split
  ·rw [bl_zero]; omega
  ·exact Nat.le_trans (bl_le (k := 1) (by decide)) (by omega)
 exact bl_addK h1 h2
theorem steps_spec (tx : Tok) (x : Dy) (pos mode : Int) (up : Bool) (k c : Nat) (hx : Num x) (h0 : x.m ≠ 0) (hk : pos - x.e = (k : Int)) (hk0 : 0 < k) (hk2 : k ≤ 4398046511104) (hmo : (mode = 0 ∧ up = false) ∨ (mode = 1 ∧ up = true)) :
  VSpec Tryz.prog F.dyadic_steps c [dyV tx x, iv pos, iv mode] (fun r _ => ∃ tk, r = whV x.neg tk (digs 18446744073709551616 (rQ x k up))) := by
 refine sG hm G.dyadic_steps ?_
 unfold C.dyadic_steps R.dyadic_steps cD
 have bx := hx.bits
 have lx := hx.arg.lim
 have nx := hx.arg.len
 have vx := val_digs two64 x.m
 have hlo := hx.lo
 have hhi := hx.hi
 have e0 : ¬ sgW x.neg x.m = 0 := by unfold sgW; rw [if_neg h0]; split <;> decide
 have g1 : ¬ pos ≤ x.e := by omega
 refine zR ?_
 refine s_call (psign_spec x.neg tx (digs 18446744073709551616 x.m) (c + 2) lx (by omega)) wS ?_
 rintro v c1 hc1 rfl
 rw [vx]
 refine zRF (jn e0 (jn g1 hk)) ?_
 refine s_call (plen_spec x.neg tx (digs 18446744073709551616 x.m) c1 lx (by omega)) wS ?_
 rintro v c2 hc2 rfl
 rw [vx]
 have hq : bl (x.m / 2 ^ k) ≤ 67108864 := Nat.le_trans (bl_mono (Nat.div_le_self _ _)) bx
 refine zS ?_
 refine v_cutQ (fun S => ∃ tq, S.ρ 8 = nats tq (digs 18446744073709551616 (x.m / 2 ^ k)) ∧ S.ρ 2 = iv mode ∧ S.ρ 3 = .ptr c 0 ∧ S.ρ 6 = .ptr (c + 1) 0 ∧ S.σ c = some ⟨[bv x.neg, nats tx (digs 18446744073709551616 x.m), iv x.e], true⟩ ∧ S.σ (c + 1) = some ⟨[bv false, .sl .nil 1 []], true⟩ ∧ c2 ≤ S.c) ?_ ?_
 ·by_cases g : (k : Int) < (bl x.m : Int)
  ·refine zRF g ?_
   refine s_call (shifted_spec tx (digs 18446744073709551616 x.m) k c2 lx (by omega) (by omega) (by rw [vx]; exact hq)) wS ?_
   rintro v c3 hc3 ⟨tq, rfl, _⟩
   rw [vx]
   refine zR ?_
   refine ⟨tq, ?_⟩
   (repeat' apply And.intro) <;> first | rfl | omega | assumption | exact True.intro
  ·refine zRF g ?_
   refine ⟨.nil, ?_⟩
   rw [div_small (by omega)]
   (repeat' apply And.intro) <;> first | rfl | omega | assumption | exact True.intro
 rintro ⟨ρ, σ, c3⟩ ⟨tq, r8, r2, r3, r6, s0, s1, hc3⟩
 dsimp only at r8 r2 r3 r6 s0 s1 hc3
 have lq := lim_digs two64 (x.m / 2 ^ k)
 have vq := val_digs two64 (x.m / 2 ^ k)
 have nq : (digs 18446744073709551616 (x.m / 2 ^ k)).length ≤ 1048576 := digs_len_bl (by omega)
 have eq0 : up = x.neg → rQ x k up = x.m / 2 ^ k := fun h => by unfold rQ; rw [if_pos h, Nat.add_zero]
 have eq1 : ¬ up = x.neg → rQ x k up = x.m / 2 ^ k + 1 := fun h => by unfold rQ; rw [if_neg h]
 generalize x.m / 2 ^ k = q at *
 have n20 : ¬ (0 : Int) = 2 := by decide
 have n21 : ¬ (1 : Int) = 2 := by decide
 have n10 : ¬ (1 : Int) = 0 := by decide
 rcases hmo with ⟨rfl, rfl⟩ | ⟨rfl, rfl⟩
 ·cases hn : x.neg with
  | false =>
   rw [eq0 hn.symm]
   refine zRF (jn r8 (jn r2 (jn r3 (jn r6 (jn s0 (jn s1 (jn n20 hn))))))) ?_
   exact ⟨tq, rfl⟩
  | true =>
   rw [eq1 (by rw [hn]; decide)]
   refine zRF (jn r8 (jn r2 (jn r3 (jn r6 (jn s0 (jn s1 (jn n20 hn))))))) ?_
   refine s_call (from_spec 1 c3 (by decide)) wS ?_
   rintro v c4 hc4 ⟨t1, rfl, _⟩
   refine zRF (jn r8 (jn r2 (jn r3 (jn r6 (jn s0 (jn s1 (jn n20 hn))))))) ?_
   refine s_call (plus_spec tq t1 (digs 18446744073709551616 q) (digs 18446744073709551616 1) c4 lq (lim_digs two64 1) (by omega) (by decide)) (wSF r8) ?_
   rw [vq, val_digs two64]
   rintro v c5 hc5 ⟨t2, rfl, _⟩
   refine zRF (jn r8 (jn r2 (jn r3 (jn r6 (jn s0 (jn s1 (jn n20 hn))))))) ?_
   exact ⟨t2, rfl⟩
 ·cases hn : x.neg with
  | true =>
   rw [eq0 hn.symm]
   refine zRF (jn r8 (jn r2 (jn r3 (jn r6 (jn s0 (jn s1 (jn n21 (jn n10 hn)))))))) ?_
   exact ⟨tq, rfl⟩
  | false =>
   rw [eq1 (by rw [hn]; decide)]
   refine zRF (jn r8 (jn r2 (jn r3 (jn r6 (jn s0 (jn s1 (jn n21 (jn n10 hn)))))))) ?_
   refine s_call (from_spec 1 c3 (by decide)) wS ?_
   rintro v c4 hc4 ⟨t1, rfl, _⟩
   refine zRF (jn r8 (jn r2 (jn r3 (jn r6 (jn s0 (jn s1 (jn n21 (jn n10 hn)))))))) ?_
   refine s_call (plus_spec tq t1 (digs 18446744073709551616 q) (digs 18446744073709551616 1) c4 lq (lim_digs two64 1) (by omega) (by decide)) (wSF r8) ?_
   rw [vq, val_digs two64]
   rintro v c5 hc5 ⟨t2, rfl, _⟩
   refine zRF (jn r8 (jn r2 (jn r3 (jn r6 (jn s0 (jn s1 (jn n21 (jn n10 hn)))))))) ?_
   exact ⟨t2, rfl⟩

theorem mul06_spec (t u : Tok) (an bn : Bool) (a b c : Nat) (ha : bl a ≤ 8589934592) (hb : bl b ≤ 8589934592) :
  VSpec Tryz.prog F.r06Mul c [zV t an a, zV u bn b] (fun r _ => ∃ tk, r = zV tk (zneg (an != bn) (a * b)) (a * b)) := by
 refine sG hm G.r06Mul ?_
 unfold C.r06Mul R.r06Mul cD
 have hb' := bl_mul_le a b
 have en : sbin .neq true (bv an) (bv bn) = some (bv (an != bn)) := by cases an <;> cases bn <;> rfl
 refine zRF en ?_
 refine s_call (mulR t u a b (c + 3) (by omega) (by omega)) wS ?_
 rintro v c1 hc1 ⟨i, rfl, _, _⟩
 refine zR ?_
 refine s_call (make1_spec (an != bn) (.id i) (a * b) c1 (by omega)) wS ?_
 rintro v c2 hc2 rfl
 refine zR ?_
 exact ⟨_, rfl⟩


theorem rounded_spec (tx : Tok) (x : Dy) (pos mode : Int) (up : Bool) (c : Nat) (hx : Num x) (hp : fitE pos) (hmo : (mode = 0 ∧ up = false) ∨ (mode = 1 ∧ up = true)) :
  VSpec Tryz.prog F.dyadic_rounded c [dyV tx x, iv pos, iv mode] (fun r c' => AnsD c c' (rD x pos up) r) := by
 refine sG hm G.dyadic_rounded ?_
 unfold C.dyadic_rounded R.dyadic_rounded cD
 have bx := hx.bits
 have lx := hx.arg.lim
 have nx := hx.arg.len
 have vx := val_digs two64 x.m
 have hlo := hx.lo
 have hhi := hx.hi
 have hp' := hp
 unfold fitE at hp'
 refine zR ?_
 refine s_call (psign_spec x.neg tx (digs 18446744073709551616 x.m) (c + 2) lx (by omega)) wS ?_
 rintro v c1 hc1 rfl
 rw [vx]
 by_cases h0 : x.m = 0
 ·have e0 : sgW x.neg x.m = 0 := by unfold sgW; rw [if_pos h0]
  have er : rD x pos up = x := if_pos (.inl h0)
  rw [er]
  refine zRF e0 ?_
  refine s_call (told_r tx x c1 hx.R) wS ?_
  rw [cl_num hx]
  rintro v c2 hc2 ⟨tk, rfl, htk⟩
  refine zR ?_
  exact ⟨tk, rfl, htk.mono (by omega) (by omega)⟩
 have e0 : ¬ sgW x.neg x.m = 0 := by unfold sgW; rw [if_neg h0]; split <;> decide
 by_cases g : pos ≤ x.e
 ·have er : rD x pos up = x := if_pos (.inr g)
  rw [er]
  refine zRF (jn e0 g) ?_
  refine s_call (told_r tx x c1 hx.R) wS ?_
  rw [cl_num hx]
  rintro v c2 hc2 ⟨tk, rfl, htk⟩
  refine zR ?_
  exact ⟨tk, rfl, htk.mono (by omega) (by omega)⟩
 obtain ⟨k, hk⟩ : ∃ k : Nat, pos - x.e = (k : Int) := ⟨(pos - x.e).toNat, by omega⟩
 have hkn : (pos - x.e).toNat = k := by omega
 have er : rD x pos up = dyOf x.neg (rQ x k up) pos := by
  unfold rD
  rw [if_neg (fun h => h.elim h0 g), hkn]
  rfl
 rw [er]
 refine zRF (jn e0 g) ?_
 refine s_call (steps_spec tx x pos mode up k c1 hx h0 hk (by omega) (by omega) hmo) wS ?_
 rintro v c2 hc2 ⟨tq, rfl⟩
 have hqb := rQ_bl (x := x) (k := k) (K := 67108863) (up := up) (by omega) (by decide) bx
 generalize rQ x k up = q at *
 refine zR ?_
 refine s_call (dtold_spec x.neg tq (digs 18446744073709551616 q) pos c2 (lim_digs two64 q) (len_bl (by omega)) (by omega) (by omega) (.inr (by rw [val_digs two64]; exact Nat.le_trans (bl_od _) hqb))) wS ?_
 rw [val_digs two64]
 rintro v c3 hc3 ⟨tk, rfl, htk⟩
 refine zR ?_
 exact ⟨tk, rfl, htk.mono (by omega) (by omega)⟩
theorem dir0_spec (mode : Int) (c : Nat) (hmo : mode = 0 ∨ mode = 1) : VSpec Tryz.prog F.dyadic_direction c [iv mode] (fun r _ => r = bv true) := by
 refine sG hm G.dyadic_direction ?_
 unfold C.dyadic_direction R.dyadic_direction cD
 have n10 : ¬ (1 : Int) = 0 := by decide
 rcases hmo with rfl | rfl
 ·refine zR ?_
  exact yE
 ·refine zRF n10 ?_
  exact yE
theorem DRound_spec (t : Tok) (a : RD) (pos mode : Int) (up : Bool) (c : Nat) (ha : a.Ok) (hp : fitE pos) (hmo : (mode = 0 ∧ up = false) ∨ (mode = 1 ∧ up = true)) :
  VSpec Tryz.prog F.dyadic_Round c [rdV t a, iv pos, iv mode] (fun r c' => AnsD c c' (rD a.d pos up) r) := by
 refine sG hm G.dyadic_Round ?_
 unfold C.dyadic_Round R.dyadic_Round cD
 refine zR ?_
 refine s_call (read_spec a.neg t a.l a.e (c + 2) ha.arg ha.fit) wS ?_
 rintro v c1 hc1 ⟨tk, rfl, htk⟩
 refine zR ?_
 refine s_call (within_spec pos (c1 + 1)) wS ?_
 rintro v c2 hc2 rfl
 refine zRF hp ?_
 refine s_call (dir0_spec mode c2 (by rcases hmo with ⟨h, _⟩ | ⟨h, _⟩ <;> omega)) wS ?_
 rintro v c3 hc3 rfl
 refine zR ?_
 refine s_call (rounded_spec tk a.d pos mode up c3 ha.num hp hmo) wSr ?_
 rintro v c4 hc4 ⟨tq, rfl, htq⟩
 refine zR ?_
 exact ⟨tq, rfl, htq.mono (by omega) (by omega)⟩
theorem outward_spec (tx ty : Tok) (x y : RD) (pos : Int) (c : Nat) (hx : x.Ok) (hy : y.Ok) (hp : fitE pos) :
  VSpec Tryz.prog F.span_outward c [rdV tx x, rdV ty y, iv pos] (fun r c' => AnsS c c' (rD x.d pos false) (rD y.d pos true) r) := by
 refine sG hm G.span_outward ?_
 unfold C.span_outward R.span_outward cD
 refine zR ?_
 refine s_call (DRound_spec tx x pos 0 false (c + 3) hx hp (.inl ⟨rfl, rfl⟩)) wS ?_
 rintro v c1 hc1 ⟨t1, rfl, ht1⟩
 refine zR ?_
 refine s_call (DRound_spec ty y pos 1 true (c1 + 1) hy hp (.inr ⟨rfl, rfl⟩)) wS ?_
 rintro v c2 hc2 ⟨t2, rfl, ht2⟩
 generalize rD x.d pos false = lo at *
 generalize rD y.d pos true = hi at *
 refine zR ?_
 refine s_call (ends_spec t1 t2 (RD.of (ansD lo)) (RD.of (ansD hi)) (tE lo) (tE hi) (c2 + 1)) wSr ?_
 rintro v c3 hc3 hv
 have hA := ansS_of (c := c) (c1 := c1 + 1) (c2 := c2) (c3 := c3) (by omega) (by omega) (by omega) (ht1.mono (by omega) (by omega)) (ht2.mono (by omega) (by omega)) hv
 obtain ⟨t, u, cm, g1, g2, rfl, gt, gu⟩ := hA
 refine zR ?_
 exact ⟨t, u, cm, by omega, by omega, rfl, gt, gu⟩
theorem told_ok {d : Dy} (hd : d.Ok) (h : tE d = 0) : (RD.of d).Ok ∧ (RD.of d).d = d := by
 rcases tE_cases d with ⟨_, h2⟩ | ⟨h1, h2, _⟩ | ⟨_, _, h2⟩
 ·rw [h2] at h; exact absurd h (by decide)
 ·exact ⟨⟨arg_digs h1, h2⟩, RD.of_d hd⟩
 ·rw [h2] at h; exact absurd h (by decide)
theorem sums_spec (ta tb tc td : Tok) (a b p q : RD) (pos : Int) (c : Nat) (ha : a.Ok) (hb : b.Ok) (hp : p.Ok) (hq : q.Ok) (hf : fitE pos) :
  VSpec Tryz.prog F.span_sums c [rsV ta tb a b, rsV tc td p q, iv pos] (fun r c' => AnsF c c' (worstE (tE (addD a.d p.d)) (tE (addD b.d q.d))) (rD (addD a.d p.d) pos false) (rD (addD b.d q.d) pos true) r) := by
 refine sG hm G.span_sums ?_
 unfold C.span_sums R.span_sums cD
 refine zR ?_
 refine s_call (DAdd_spec ta tc a p (c + 3) ha hp) wS ?_
 rintro v c1 hc1 ⟨t1, rfl, ht1⟩
 refine zR ?_
 refine s_call (DAdd_spec tb td b q (c1 + 1) hb hq) wS ?_
 rintro v c2 hc2 ⟨t2, rfl, ht2⟩
 have ok1 := addD_ok a.d p.d
 have ok2 := addD_ok b.d q.d
 generalize addD a.d p.d = lo at *
 generalize addD b.d q.d = hi at *
 refine zR ?_
 refine s_call (worst_spec (tE lo) (tE hi) (c2 + 1)) wS ?_
 rintro v c3 hc3 rfl
 by_cases g : worstE (tE lo) (tE hi) = 0
 ·obtain ⟨g1, g2⟩ := worst_zero.1 g
  obtain ⟨k1, e1⟩ := told_ok ok1 g1
  obtain ⟨k2, e2⟩ := told_ok ok2 g2
  refine zRF g ?_
  refine s_call (outward_spec t1 t2 (RD.of lo) (RD.of hi) pos c3 k1 k2 hf) (by rw [ansD_ok g1, ansD_ok g2]; refine zS ?_; rfl) ?_
  rw [e1, e2]
  rintro v c4 hc4 hA
  obtain ⟨t, u, cm, g3, g4, rfl, gt, gu⟩ := hA
  refine zR ?_
  exact ⟨fun h => absurd rfl h, fun _ => ⟨t, u, cm, by omega, by omega, rfl, gt.mono (by omega) (Nat.le_refl _), gu⟩⟩
 ·refine zRF g ?_
  exact ⟨fun _ => rfl, fun h => absurd h g⟩

theorem chks2_eq (pos : Int) (ta tb tc td : Tok) (a b p q : RD) : chksE pos [⟨ta, tb, a, b⟩, ⟨tc, td, p, q⟩] = w2 pos (chkE a b) (chkE p q) := by
 have e : chkL [⟨ta, tb, a, b⟩, ⟨tc, td, p, q⟩] = chk2 a b p q := by
  show (if chkE a b = 0 then (if chkE p q = 0 then 0 else chkE p q) else chkE a b) = if chkE a b = 0 then chkE p q else chkE a b
  by_cases g2 : chkE p q = 0
  ·rw [if_pos g2, g2]
  ·rw [if_neg g2]
 unfold chksE w2
 rw [e]
 unfold chk2
 by_cases g : chkE a b = 0
 ·rw [if_pos g, if_pos g]
 ·rw [if_neg g, if_neg g, if_neg g]
theorem checksP (pos : Int) (ta tb tc td : Tok) (a b p q : RD) (tk : Tok) (c : Nat) (ha : Arg a.l) (hb : Arg b.l) (hp : Arg p.l) (hq : Arg q.l) :
  VSpec Tryz.prog F.span_checks c [iv pos, .sl tk 6 (cellsL [⟨ta, tb, a, b⟩, ⟨tc, td, p, q⟩])] (fun r _ => r = iv (w2 pos (chkE a b) (chkE p q))) := by
 rw [← chks2_eq pos ta tb tc td]
 exact checks_spec pos tk _ c (by simp) (args2 ha hb hp hq)
theorem w2_ok {pos f g : Int} (h : w2 pos f g = 0) : f = 0 ∧ g = 0 ∧ fitE pos := by
 unfold w2 at h
 split at h
 ·split at h
  ·split at h
   ·exact ⟨by assumption, by assumption, by assumption⟩
   ·cases h
  ·rename_i g; exact absurd h g
 ·rename_i g; exact absurd h g
def addF (pos : Int) (a b p q : RD) : Int := if w2 pos (chkE a b) (chkE p q) = 0 then worstE (tE (addD a.d p.d)) (tE (addD b.d q.d)) else w2 pos (chkE a b) (chkE p q)
theorem addS_spec (ta tb tc td : Tok) (a b p q : RD) (pos : Int) (c : Nat) (ha : Arg a.l) (hb : Arg b.l) (hp : Arg p.l) (hq : Arg q.l) :
  VSpec Tryz.prog F.span_Add c [rsV ta tb a b, rsV tc td p q, iv pos] (fun r c' => AnsF c c' (addF pos a b p q) (rD (addD a.d p.d) pos false) (rD (addD b.d q.d) pos true) r) := by
 refine sG hm G.span_Add ?_
 unfold C.span_Add R.span_Add cD
 refine zR ?_
 refine s_call (checksP pos ta tb tc td a b p q (.id (c + 3)) (c + 4) ha hb hp hq) wSr ?_
 rintro v c1 hc1 rfl
 unfold addF
 by_cases h : w2 pos (chkE a b) (chkE p q) = 0
 ·obtain ⟨k1, k2, k3⟩ := w2_ok h
  obtain ⟨fa, fb, _⟩ := chk_ok k1
  obtain ⟨fp, fq, _⟩ := chk_ok k2
  rw [if_pos h]
  refine zRF h ?_
  refine s_call (sums_spec ta tb tc td a b p q pos c1 ⟨ha, fa⟩ ⟨hb, fb⟩ ⟨hp, fp⟩ ⟨hq, fq⟩ k3) wS ?_
  rintro v c2 hc2 hv
  generalize worstE (tE (addD a.d p.d)) (tE (addD b.d q.d)) = f at *
  by_cases g : f = 0
  ·obtain ⟨t, u, cm, g3, g4, rfl, gt, gu⟩ := hv.ok g
   refine zR ?_
   exact ⟨fun h => absurd g h, fun _ => ⟨t, u, cm, by omega, by omega, rfl, gt.mono (by omega) (Nat.le_refl _), gu⟩⟩
  ·have hb := hv.bad g
   subst hb
   refine zR ?_
   exact ⟨fun _ => rfl, fun h => absurd h g⟩
 ·rw [if_neg h]
  refine zRF h ?_
  exact ⟨fun _ => rfl, fun e => absurd e h⟩
def RD.tn (a : RD) : RD := ⟨!a.neg, a.l, a.e⟩
theorem RD.tn_d (a : RD) : a.tn.d = negD a.d := dyOf_neg a.neg (val 18446744073709551616 a.l) a.e
theorem turned_spec (t : Tok) (a : RD) (c : Nat) : VSpec Tryz.prog F.span_turned c [rdV t a] (fun r _ => r = rdV t a.tn) := by
 refine sG hm G.span_turned ?_
 unfold C.span_turned R.span_turned cD
 refine zR ?_
 exact yE
def subF (pos : Int) (a b p q : RD) : Int := if w2 pos (chkE a b) (chkE p q) = 0 then worstE (tE (addD a.d (negD q.d))) (tE (addD b.d (negD p.d))) else w2 pos (chkE a b) (chkE p q)
theorem subS_spec (ta tb tc td : Tok) (a b p q : RD) (pos : Int) (c : Nat) (ha : Arg a.l) (hb : Arg b.l) (hp : Arg p.l) (hq : Arg q.l) :
  VSpec Tryz.prog F.span_Sub c [rsV ta tb a b, rsV tc td p q, iv pos] (fun r c' => AnsF c c' (subF pos a b p q) (rD (addD a.d (negD q.d)) pos false) (rD (addD b.d (negD p.d)) pos true) r) := by
 refine sG hm G.span_Sub ?_
 unfold C.span_Sub R.span_Sub cD
 refine zR ?_
 refine s_call (checksP pos ta tb tc td a b p q (.id (c + 3)) (c + 4) ha hb hp hq) wSr ?_
 rintro v c1 hc1 rfl
 unfold subF
 by_cases h : w2 pos (chkE a b) (chkE p q) = 0
 ·obtain ⟨k1, k2, k3⟩ := w2_ok h
  obtain ⟨fa, fb, _⟩ := chk_ok k1
  obtain ⟨fp, fq, _⟩ := chk_ok k2
  rw [if_pos h]
  refine zRF h ?_
  refine s_call (turned_spec td q c1) wS ?_
  rintro v c2 hc2 rfl
  refine zRF h ?_
  refine s_call (turned_spec tc p c2) wS ?_
  rintro v c3 hc3 rfl
  refine zRF h ?_
  refine s_call (sums_spec ta tb td tc a b q.tn p.tn pos c3 ⟨ha, fa⟩ ⟨hb, fb⟩ ⟨hq, fq⟩ ⟨hp, fp⟩ k3) wS ?_
  rw [RD.tn_d, RD.tn_d]
  rintro v c4 hc4 hv
  generalize worstE (tE (addD a.d (negD q.d))) (tE (addD b.d (negD p.d))) = f at *
  by_cases g : f = 0
  ·obtain ⟨t, u, cm, g3, g4, rfl, gt, gu⟩ := hv.ok g
   refine zR ?_
   exact ⟨fun h => absurd g h, fun _ => ⟨t, u, cm, by omega, by omega, rfl, gt.mono (by omega) (Nat.le_refl _), gu⟩⟩
  ·have hb := hv.bad g
   subst hb
   refine zR ?_
   exact ⟨fun _ => rfl, fun h => absurd h g⟩
 ·rw [if_neg h]
  refine zRF h ?_
  exact ⟨fun _ => rfl, fun e => absurd e h⟩

theorem b_nexor : ∀ x y : Bool, sbin .neq true (bv x) (bv y) = some (bv (x != y)) := fun x y => by cases x <;> cases y <;> rfl
theorem wmul_spec (an bn : Bool) (ta tb : Tok) (a b : List Nat) (c : Nat) (ha : Lim 18446744073709551616 a) (hb : Lim 18446744073709551616 b) (hna : a.length ≤ 549755813888) (hnb : b.length ≤ 549755813888) :
  VSpec Tryz.prog F.whole_Mul c [whV an ta a, whV bn tb b] (fun r _ => WAns (an != bn, val 18446744073709551616 a * val 18446744073709551616 b) r) := by
 refine sG hm G.whole_Mul ?_
 unfold C.whole_Mul R.whole_Mul cD
 refine zR ?_
 refine s_call (mul_spec ta tb a b (c + 3) ha hb hna hnb) wS ?_
 rintro v c1 hc1 ht
 generalize val 18446744073709551616 a * val 18446744073709551616 b = n at *
 obtain ⟨t3, l3, e3, rfl, hr⟩ := wres_told (an != bn) n c1 ht
 refine zRF @b_nexor ?_
 refine s_call (hr c1) wS ?_
 rintro v c2 hc2 (⟨h, tk, rfl⟩ | ⟨h, rfl⟩)
 ·refine zR ?_
  exact .inl ⟨h, tk, rfl⟩
 ·refine zR ?_
  exact .inr ⟨h, rfl⟩
theorem mul_oddD {x y : Dy} (hx : x.Ok) (hy : y.Ok) : x.m * y.m = 0 ∨ x.m * y.m % 2 = 1 := by
 rcases hx.odd with h | h
 ·exact .inl (by rw [h, Nat.zero_mul])
 ·rcases hy.odd with g | g
  ·exact .inl (by rw [g, Nat.mul_zero])
  ·exact .inr (by rw [Nat.mul_mod, h, g])
theorem DMul_spec (ta tb : Tok) (a b : RD) (c : Nat) (ha : a.Ok) (hb : b.Ok) : VSpec Tryz.prog F.dyadic_Mul c [rdV ta a, rdV tb b] (fun r c' => AnsD c c' (mulD a.d b.d) r) := by
 refine sG hm G.dyadic_Mul ?_
 unfold C.dyadic_Mul R.dyadic_Mul cD
 have na := ha.num
 have nb := hb.num
 have a1 := na.lo
 have a2 := na.hi
 have b1 := nb.lo
 have b2 := nb.hi
 have la := na.arg.len
 have lb := nb.arg.len
 have g3 : ¬ (3 : Int) = 0 := by decide
 refine zR ?_
 refine s_call (two_spec a.neg b.neg ta tb a.l b.l a.e b.e (c + 3) ha.arg hb.arg ha.fit hb.fit) wS ?_
 rintro v c1 hc1 ⟨tx, ty, cm, h1, h2, rfl, _, _⟩
 have e1 : dyOf a.neg (val 18446744073709551616 a.l) a.e = a.d := rfl
 have e2 : dyOf b.neg (val 18446744073709551616 b.l) b.e = b.d := rfl
 rw [e1, e2]
 have ho := mul_oddD na.ok nb.ok
 refine zR ?_
 refine s_call (wmul_spec a.d.neg b.d.neg tx ty (digs 18446744073709551616 a.d.m) (digs 18446744073709551616 b.d.m) (c1 + 2) na.arg.lim nb.arg.lim (by omega) (by omega)) wS ?_
 rw [val_digs two64, val_digs two64]
 unfold mulD
 generalize a.d.m * b.d.m = M at *
 rintro v c2 hc2 (⟨h, tk, rfl⟩ | ⟨h, rfl⟩)
 ·replace h : bl M ≤ 67108864 := h
  refine zR ?_
  refine s_call (dtold_spec (zneg (a.d.neg != b.d.neg) M) tk (digs 18446744073709551616 M) (a.d.e + b.d.e) (c2 + 1) (lim_digs two64 M) (len_bl (by omega)) (by omega) (by omega) (.inr (by rw [val_digs two64]; exact Nat.le_trans (bl_od _) h))) wS ?_
  rw [val_digs two64, dyOf_zneg]
  rintro v c3 hc3 ⟨tq, rfl, htq⟩
  refine zR ?_
  exact ⟨tq, rfl, htq.mono (by omega) (by omega)⟩
 ·have hM : M % 2 = 1 := ho.resolve_left (fun h0 => by rw [h0, bl_zero] at h; omega)
  have ed := dyOf_odd (neg := a.d.neg != b.d.neg) (e := a.d.e + b.d.e) hM
  have ht : tE (dyOf (a.d.neg != b.d.neg) M (a.d.e + b.d.e)) = 3 := by rw [ed]; exact if_pos h
  refine zRF g3 ?_
  refine ⟨.nil, ?_, .inl ⟨rfl, ?_⟩⟩
  ·rw [ansD_bad (by rw [ht]; decide), ht]; rfl
  ·rw [ansD_bad (by rw [ht]; decide)]; rfl

def mnN (x1 x2 x3 x4 : Dy) : Nat → Dy
 | 0 => x1
 | 1 => minD x1 x2
 | 2 => minD (minD x1 x2) x3
 | _ => minD (minD (minD x1 x2) x3) x4
def mxN (x1 x2 x3 x4 : Dy) : Nat → Dy
 | 0 => x1
 | 1 => maxD x1 x2
 | 2 => maxD (maxD x1 x2) x3
 | _ => maxD (maxD (maxD x1 x2) x3) x4
theorem min_flip {x y : Dy} : minD x y = if cmpD y x < 0 then y else x := by
 unfold minD
 rw [cmpD_flip x y]
 by_cases g : cmpD x y ≤ 0
 ·rw [if_pos g, if_neg (by omega)]
 ·rw [if_neg g, if_pos (by omega)]
theorem max_flip {x y : Dy} : maxD x y = if 0 < cmpD y x then y else x := by
 unfold maxD
 rw [cmpD_flip x y]
 by_cases g : 0 ≤ cmpD x y
 ·rw [if_pos g, if_neg (by omega)]
 ·rw [if_neg g, if_pos (by omega)]
theorem min_step {lo d : RD} {m : Dy} (h : lo.d = m) : (if cmpD d.d lo.d < 0 then d else lo).d = minD m d.d := by
 subst h
 rw [min_flip]
 split <;> rfl
theorem max_step {hi d : RD} {m : Dy} (h : hi.d = m) : (if 0 < cmpD d.d hi.d then d else hi).d = maxD m d.d := by
 subst h
 rw [max_flip]
 split <;> rfl
theorem hull4_spec (t t1 t2 t3 t4 : Tok) (x1 x2 x3 x4 : RD) (pos : Int) (c : Nat) (h1 : x1.Ok) (h2 : x2.Ok) (h3 : x3.Ok) (h4 : x4.Ok) (hp : fitE pos) :
  VSpec Tryz.prog F.span_hull c [iv pos, .sl t 3 [bv x1.neg, nats t1 x1.l, iv x1.e, bv x2.neg, nats t2 x2.l, iv x2.e, bv x3.neg, nats t3 x3.l, iv x3.e, bv x4.neg, nats t4 x4.l, iv x4.e]] (fun r c' => AnsS c c' (rD (mnN x1.d x2.d x3.d x4.d 3) pos false) (rD (mxN x1.d x2.d x3.d x4.d 3) pos true) r) := by
 refine sG hm G.span_hull ?_
 unfold C.span_hull R.span_hull cD
 have hs : vslc 3 (.sl t 3 [bv x1.neg, nats t1 x1.l, iv x1.e, bv x2.neg, nats t2 x2.l, iv x2.e, bv x3.neg, nats t3 x3.l, iv x3.e, bv x4.neg, nats t4 x4.l, iv x4.e]) (some (iv 1)) none none = some (.sl (t.cut 1) 3 [bv x2.neg, nats t2 x2.l, iv x2.e, bv x3.neg, nats t3 x3.l, iv x3.e, bv x4.neg, nats t4 x4.l, iv x4.e]) := by simp [vslc, vnum]
 refine zRF (jn @nb_app hs) ?_
 refine v_loopR (fun S => ∃ lo hi : RD, ∃ tl th : Tok, lo.Ok ∧ hi.Ok ∧ lo.d = mnN x1.d x2.d x3.d x4.d 3 ∧ hi.d = mxN x1.d x2.d x3.d x4.d 3 ∧ S.ρ 0 = iv pos ∧ S.ρ 4 = .ptr c 0 ∧ S.ρ 6 = .ptr (c + 1) 0 ∧ S.ρ 7 = .ptr (c + 2) 0 ∧ S.σ c = some ⟨[bv false, .sl .nil 1 [], iv 0, bv false, .sl .nil 1 [], iv 0], true⟩ ∧ S.σ (c + 1) = some ⟨[bv lo.neg, nats tl lo.l, iv lo.e], true⟩ ∧ S.σ (c + 2) = some ⟨[bv hi.neg, nats th hi.l, iv hi.e], true⟩ ∧ c + 3 ≤ S.c) ?_ ?_
 ·refine vwp_loop (fun k S => ∃ i, ∃ lo hi : RD, ∃ tl th tt : Tok, k = 3 - i ∧ i ≤ 3 ∧ lo.Ok ∧ hi.Ok ∧ lo.d = mnN x1.d x2.d x3.d x4.d i ∧ hi.d = mxN x1.d x2.d x3.d x4.d i ∧ S.ρ 21 = .sl tt 3 [bv x2.neg, nats t2 x2.l, iv x2.e, bv x3.neg, nats t3 x3.l, iv x3.e, bv x4.neg, nats t4 x4.l, iv x4.e] ∧ S.ρ 22 = iv 3 ∧ S.ρ 23 = iv (i : Int) ∧ S.ρ 0 = iv pos ∧ S.ρ 4 = .ptr c 0 ∧ S.ρ 6 = .ptr (c + 1) 0 ∧ S.ρ 7 = .ptr (c + 2) 0 ∧ S.σ c = some ⟨[bv false, .sl .nil 1 [], iv 0, bv false, .sl .nil 1 [], iv 0], true⟩ ∧ S.σ (c + 1) = some ⟨[bv lo.neg, nats tl lo.l, iv lo.e], true⟩ ∧ S.σ (c + 2) = some ⟨[bv hi.neg, nats th hi.l, iv hi.e], true⟩ ∧ c + 3 ≤ S.c) 3 ?_ ?_
  ·refine ⟨0, x1, x1, t1, t1, t.cut 1, by omega, by omega, h1, h1, rfl, rfl, ?_⟩
   refine zS ?_
   exact yA
  rintro k ⟨ρ, σ, c1⟩ ⟨i, lo, hi, tl, th, tt, hk, hi3, ol, oh, el, eh, r21, r22, r23, r0, r4, r6, r7, s0, s1, s2, hc1⟩
  dsimp only at r21 r22 r23 r0 r4 r6 r7 s0 s1 s2 hc1
  obtain rfl | rfl | rfl | rfl : i = 0 ∨ i = 1 ∨ i = 2 ∨ i = 3 := by omega
  ·refine zRF (jn r0 (jn r4 (jn r6 (jn r7 (jn s0 (jn s1 (jn s2 (jn r21 (jn r22 r23))))))))) ?_
   refine s_call (Compare_spec t2 tl x2 lo (c1 + 1) h2 ol) (wSF (jn r0 (jn r4 (jn r6 (jn r7 (jn s0 (jn s1 (jn s2 (jn r21 (jn r22 r23)))))))))) ?_
   rintro v c2 hc2 rfl
   have el' := min_step (lo := lo) (d := x2) el
   have eh' := max_step (hi := hi) (d := x2) eh
   by_cases g : cmpD x2.d lo.d < 0
   ·rw [if_pos g] at el'
    refine zRF (jn r0 (jn r4 (jn r6 (jn r7 (jn s0 (jn s1 (jn s2 (jn r21 (jn r22 (jn r23 g)))))))))) ?_
    refine s_call (Compare_spec t2 th x2 hi c2 h2 oh) (wSF (jn r0 (jn r4 (jn r6 (jn r7 (jn s0 (jn s1 (jn s2 (jn r21 (jn r22 r23)))))))))) ?_
    rintro v c3 hc3 rfl
    by_cases g2 : 0 < cmpD x2.d hi.d
    ·rw [if_pos g2] at eh'
     refine zRF (jn r0 (jn r4 (jn r6 (jn r7 (jn s0 (jn s1 (jn s2 (jn r21 (jn r22 (jn r23 g2)))))))))) ?_
     refine ⟨2, by omega, 1, x2, x2, t2, t2, tt, by omega, by omega, h2, h2, el', eh', ?_⟩
     exact yA
    ·rw [if_neg g2] at eh'
     refine zRF (jn r0 (jn r4 (jn r6 (jn r7 (jn s0 (jn s1 (jn s2 (jn r21 (jn r22 (jn r23 g2)))))))))) ?_
     refine ⟨2, by omega, 1, x2, hi, t2, th, tt, by omega, by omega, h2, oh, el', eh', ?_⟩
     exact yA
   ·rw [if_neg g] at el'
    refine zRF (jn r0 (jn r4 (jn r6 (jn r7 (jn s0 (jn s1 (jn s2 (jn r21 (jn r22 (jn r23 g)))))))))) ?_
    refine s_call (Compare_spec t2 th x2 hi c2 h2 oh) (wSF (jn r0 (jn r4 (jn r6 (jn r7 (jn s0 (jn s1 (jn s2 (jn r21 (jn r22 r23)))))))))) ?_
    rintro v c3 hc3 rfl
    by_cases g2 : 0 < cmpD x2.d hi.d
    ·rw [if_pos g2] at eh'
     refine zRF (jn r0 (jn r4 (jn r6 (jn r7 (jn s0 (jn s1 (jn s2 (jn r21 (jn r22 (jn r23 g2)))))))))) ?_
     refine ⟨2, by omega, 1, lo, x2, tl, t2, tt, by omega, by omega, ol, h2, el', eh', ?_⟩
     exact yA
    ·rw [if_neg g2] at eh'
     refine zRF (jn r0 (jn r4 (jn r6 (jn r7 (jn s0 (jn s1 (jn s2 (jn r21 (jn r22 (jn r23 g2)))))))))) ?_
     refine ⟨2, by omega, 1, lo, hi, tl, th, tt, by omega, by omega, ol, oh, el', eh', ?_⟩
     exact yA
  ·refine zRF (jn r0 (jn r4 (jn r6 (jn r7 (jn s0 (jn s1 (jn s2 (jn r21 (jn r22 r23))))))))) ?_
   refine s_call (Compare_spec t3 tl x3 lo (c1 + 1) h3 ol) (wSF (jn r0 (jn r4 (jn r6 (jn r7 (jn s0 (jn s1 (jn s2 (jn r21 (jn r22 r23)))))))))) ?_
   rintro v c2 hc2 rfl
   have el' := min_step (lo := lo) (d := x3) el
   have eh' := max_step (hi := hi) (d := x3) eh
   by_cases g : cmpD x3.d lo.d < 0
   ·rw [if_pos g] at el'
    refine zRF (jn r0 (jn r4 (jn r6 (jn r7 (jn s0 (jn s1 (jn s2 (jn r21 (jn r22 (jn r23 g)))))))))) ?_
    refine s_call (Compare_spec t3 th x3 hi c2 h3 oh) (wSF (jn r0 (jn r4 (jn r6 (jn r7 (jn s0 (jn s1 (jn s2 (jn r21 (jn r22 r23)))))))))) ?_
    rintro v c3 hc3 rfl
    by_cases g2 : 0 < cmpD x3.d hi.d
    ·rw [if_pos g2] at eh'
     refine zRF (jn r0 (jn r4 (jn r6 (jn r7 (jn s0 (jn s1 (jn s2 (jn r21 (jn r22 (jn r23 g2)))))))))) ?_
     refine ⟨1, by omega, 2, x3, x3, t3, t3, tt, by omega, by omega, h3, h3, el', eh', ?_⟩
     exact yA
    ·rw [if_neg g2] at eh'
     refine zRF (jn r0 (jn r4 (jn r6 (jn r7 (jn s0 (jn s1 (jn s2 (jn r21 (jn r22 (jn r23 g2)))))))))) ?_
     refine ⟨1, by omega, 2, x3, hi, t3, th, tt, by omega, by omega, h3, oh, el', eh', ?_⟩
     exact yA
   ·rw [if_neg g] at el'
    refine zRF (jn r0 (jn r4 (jn r6 (jn r7 (jn s0 (jn s1 (jn s2 (jn r21 (jn r22 (jn r23 g)))))))))) ?_
    refine s_call (Compare_spec t3 th x3 hi c2 h3 oh) (wSF (jn r0 (jn r4 (jn r6 (jn r7 (jn s0 (jn s1 (jn s2 (jn r21 (jn r22 r23)))))))))) ?_
    rintro v c3 hc3 rfl
    by_cases g2 : 0 < cmpD x3.d hi.d
    ·rw [if_pos g2] at eh'
     refine zRF (jn r0 (jn r4 (jn r6 (jn r7 (jn s0 (jn s1 (jn s2 (jn r21 (jn r22 (jn r23 g2)))))))))) ?_
     refine ⟨1, by omega, 2, lo, x3, tl, t3, tt, by omega, by omega, ol, h3, el', eh', ?_⟩
     exact yA
    ·rw [if_neg g2] at eh'
     refine zRF (jn r0 (jn r4 (jn r6 (jn r7 (jn s0 (jn s1 (jn s2 (jn r21 (jn r22 (jn r23 g2)))))))))) ?_
     refine ⟨1, by omega, 2, lo, hi, tl, th, tt, by omega, by omega, ol, oh, el', eh', ?_⟩
     exact yA
  ·refine zRF (jn r0 (jn r4 (jn r6 (jn r7 (jn s0 (jn s1 (jn s2 (jn r21 (jn r22 r23))))))))) ?_
   refine s_call (Compare_spec t4 tl x4 lo (c1 + 1) h4 ol) (wSF (jn r0 (jn r4 (jn r6 (jn r7 (jn s0 (jn s1 (jn s2 (jn r21 (jn r22 r23)))))))))) ?_
   rintro v c2 hc2 rfl
   have el' := min_step (lo := lo) (d := x4) el
   have eh' := max_step (hi := hi) (d := x4) eh
   by_cases g : cmpD x4.d lo.d < 0
   ·rw [if_pos g] at el'
    refine zRF (jn r0 (jn r4 (jn r6 (jn r7 (jn s0 (jn s1 (jn s2 (jn r21 (jn r22 (jn r23 g)))))))))) ?_
    refine s_call (Compare_spec t4 th x4 hi c2 h4 oh) (wSF (jn r0 (jn r4 (jn r6 (jn r7 (jn s0 (jn s1 (jn s2 (jn r21 (jn r22 r23)))))))))) ?_
    rintro v c3 hc3 rfl
    by_cases g2 : 0 < cmpD x4.d hi.d
    ·rw [if_pos g2] at eh'
     refine zRF (jn r0 (jn r4 (jn r6 (jn r7 (jn s0 (jn s1 (jn s2 (jn r21 (jn r22 (jn r23 g2)))))))))) ?_
     refine ⟨0, by omega, 3, x4, x4, t4, t4, tt, by omega, by omega, h4, h4, el', eh', ?_⟩
     exact yA
    ·rw [if_neg g2] at eh'
     refine zRF (jn r0 (jn r4 (jn r6 (jn r7 (jn s0 (jn s1 (jn s2 (jn r21 (jn r22 (jn r23 g2)))))))))) ?_
     refine ⟨0, by omega, 3, x4, hi, t4, th, tt, by omega, by omega, h4, oh, el', eh', ?_⟩
     exact yA
   ·rw [if_neg g] at el'
    refine zRF (jn r0 (jn r4 (jn r6 (jn r7 (jn s0 (jn s1 (jn s2 (jn r21 (jn r22 (jn r23 g)))))))))) ?_
    refine s_call (Compare_spec t4 th x4 hi c2 h4 oh) (wSF (jn r0 (jn r4 (jn r6 (jn r7 (jn s0 (jn s1 (jn s2 (jn r21 (jn r22 r23)))))))))) ?_
    rintro v c3 hc3 rfl
    by_cases g2 : 0 < cmpD x4.d hi.d
    ·rw [if_pos g2] at eh'
     refine zRF (jn r0 (jn r4 (jn r6 (jn r7 (jn s0 (jn s1 (jn s2 (jn r21 (jn r22 (jn r23 g2)))))))))) ?_
     refine ⟨0, by omega, 3, lo, x4, tl, t4, tt, by omega, by omega, ol, h4, el', eh', ?_⟩
     exact yA
    ·rw [if_neg g2] at eh'
     refine zRF (jn r0 (jn r4 (jn r6 (jn r7 (jn s0 (jn s1 (jn s2 (jn r21 (jn r22 (jn r23 g2)))))))))) ?_
     refine ⟨0, by omega, 3, lo, hi, tl, th, tt, by omega, by omega, ol, oh, el', eh', ?_⟩
     exact yA
  ·refine zRF (jn r0 (jn r4 (jn r6 (jn r7 (jn s0 (jn s1 (jn s2 (jn r21 (jn r22 r23))))))))) ?_
   refine ⟨lo, hi, tl, th, ol, oh, el, eh, ?_⟩
   exact yA
 rintro ⟨ρ, σ, c1⟩ ⟨lo, hi, tl, th, ol, oh, el, eh, r0, r4, r6, r7, s0, s1, s2, hc1⟩
 dsimp only at r0 r4 r6 r7 s0 s1 s2 hc1
 refine zRF (jn r0 (jn r4 (jn r6 (jn r7 (jn s0 (jn s1 s2)))))) ?_
 refine s_call (outward_spec tl th lo hi pos c1 ol oh hp) (wSF (jn r0 (jn r4 (jn r6 (jn r7 (jn s0 (jn s1 s2))))))) ?_
 rw [el, eh]
 rintro v c2 hc2 ⟨t, u, cm, g1, g2, rfl, gt, gu⟩
 refine zRF (jn r0 (jn r4 (jn r6 (jn r7 (jn s0 (jn s1 s2)))))) ?_
 exact ⟨t, u, cm, by omega, by omega, rfl, gt.mono (by omega) (Nat.le_refl _), gu⟩

section
variable {P : Program} {dr : Bool} {c0 : Nat} {ρ : Nat → V} {c i : Nat} {r : List VO} {K : VS → Prop} {σ : Nat → Option Blk}
theorem s_appS0 {x y : X} {sz sz0 bytes : Nat} {z : List Value} {u : Tok} {ys : List V} (hx : x.ev ρ = .sl .nil sz0 []) (hy : y.ev ρ = .sl u sz ys) (hk : ys.length = 1 * sz) (hb : bytes ≤ 281474976710656)
  (h : wps P dr c0 r ⟨upd ρ i (.buf c 0 1 none sz), supd σ c (some ⟨ys, true⟩), c + 1⟩ K) : wps P dr c0 (⟨some i, .app sz bytes z x y, none⟩ :: r) ⟨ρ, σ, c⟩ K := by
 have hc : vcells sz σ (y.ev ρ) = some ys := by rw [hy]; cases u <;> simp [vcells]
 exact s_eff rfl (by intros; exact fun h => by cases h) (by intros; exact fun h => by cases h) ⟨_, _, _, none, .appNil (k := 1) hx hc hk (by omega) (by omega) (by omega), h⟩
theorem s_appS {x y : X} {t n sz bytes : Nat} {z : List Value} {cap : Option Nat} {cs ys : List V} {u : Tok} (hx : x.ev ρ = .buf t 0 n cap sz) (ht : σ t = some ⟨cs, true⟩) (hcs : cs.length = n * sz) (h0 : c0 ≤ t) (hy : y.ev ρ = .sl u sz ys) (hk : ys.length = 1 * sz)
  (hb : (2 * (n + 1)) * bytes ≤ 281474976710656) (hn : n + 1 ≤ 4611686018427387904)
  (h : wps P dr c0 r ⟨upd (kill (some (.inl t)) ρ) i (.buf t 0 (n + 1) none sz), supd (killσ t σ) t (some ⟨(cs ++ ys).map (killV t), true⟩), c⟩ K) : wps P dr c0 (⟨some i, .app sz bytes z x y, none⟩ :: r) ⟨ρ, σ, c⟩ K := by
 have hc : vcells sz σ (y.ev ρ) = some ys := by rw [hy]; cases u <;> simp [vcells]
 refine s_eff rfl (by intros; exact fun h => by cases h) (by intros; exact fun h => by cases h) ⟨_, _, _, some (.inl t), .appMove (k := 1) hx ht h0 hc hk (by omega) hb hn, ?_⟩
 rw [← hcs, List.take_length]
 exact h
end
theorem kl_at (t : Nat) (ρ : Nat → V) (j : Nat) : kill (some (.inl t)) ρ j = killV t (ρ j) := rfl
theorem kl_lit (t : Nat) (v : Value) : killV t (.lit v) = .lit v := rfl
theorem kl_agg (t : Nat) (l : List V) : killV t (.agg l) = .agg l := rfl
theorem kl_sl (t sz : Nat) (tk : Tok) (l : List V) : killV t (.sl tk sz l) = .sl tk sz l := rfl
theorem kl_ptr {t u o : Nat} (h : u ≠ t) : killV t (.ptr u o) = .ptr u o := if_neg h
theorem kl_blk {t u : Nat} {σ : Nat → Option Blk} {l : List V} {b : Bool} (h : σ u = some ⟨l, b⟩) : killσ t σ u = some ⟨l.map (killV t), b⟩ := by unfold killσ; rw [h]; rfl

theorem aix_0 {sz : Nat} {ag : Option Nat} {l : List V} : vaix 4 sz ag (.agg l) (iv 0) = vpart l 0 ag := by simp [vaix]
theorem aix_1 {ag : Option Nat} {l : List V} : vaix 4 6 ag (.agg l) (iv 1) = vpart l 6 ag := by simp [vaix]
theorem aix_2 {ag : Option Nat} {l : List V} : vaix 4 6 ag (.agg l) (iv 2) = vpart l 12 ag := by simp [vaix]
theorem aix_3 {ag : Option Nat} {l : List V} : vaix 4 6 ag (.agg l) (iv 3) = vpart l 18 ag := by simp [vaix]
theorem axp_0 {t : Nat} : vaxa 2 3 (.ptr t 0) (iv 0) = some (.ptr t 0) := by simp [vaxa]
theorem axp_1 {t : Nat} : vaxa 2 3 (.ptr t 0) (iv 1) = some (.ptr t 3) := by simp [vaxa]
theorem fr_0 {t : Nat} : Tok.from 0 t = .id t := if_pos rfl

def mulW (e1 e2 e3 e4 : Dy) : Int := (worstE (worstE (worstE (worstE 0 (tE e1)) (tE e2)) (tE e3)) (tE e4))
def mulF (pos : Int) (a b p q : RD) : Int := if w2 pos (chkE a b) (chkE p q) = 0 then mulW (mulD a.d p.d) (mulD a.d q.d) (mulD b.d p.d) (mulD b.d q.d) else w2 pos (chkE a b) (chkE p q)
theorem mulW_zero {e1 e2 e3 e4 : Dy} (h : mulW e1 e2 e3 e4 = 0) : tE e1 = 0 ∧ tE e2 = 0 ∧ tE e3 = 0 ∧ tE e4 = 0 := by
 unfold mulW at h
 obtain ⟨h, h4⟩ := worst_zero.1 h
 obtain ⟨h, h3⟩ := worst_zero.1 h
 obtain ⟨h, h2⟩ := worst_zero.1 h
 obtain ⟨h, h1⟩ := worst_zero.1 h
 exact ⟨h1, h2, h3, h4⟩
abbrev mnP (a b p q : Dy) : Dy := mnN (mulD a p) (mulD a q) (mulD b p) (mulD b q) 3
abbrev mxP (a b p q : Dy) : Dy := mxN (mulD a p) (mulD a q) (mulD b p) (mulD b q) 3
theorem mulS_spec (ta tb tc td : Tok) (a b p q : RD) (pos : Int) (c : Nat) (ha : Arg a.l) (hb : Arg b.l) (hp : Arg p.l) (hq : Arg q.l) :
  VSpec Tryz.prog F.span_Mul c [rsV ta tb a b, rsV tc td p q, iv pos] (fun r c' => AnsF c c' (mulF pos a b p q) (rD (mnP a.d b.d p.d q.d) pos false) (rD (mxP a.d b.d p.d q.d) pos true) r) := by
 refine sG hm G.span_Mul ?_
 unfold C.span_Mul R.span_Mul cD
 refine zR ?_
 refine s_call (checksP pos ta tb tc td a b p q (.id (c + 3)) (c + 4) ha hb hp hq) wSr ?_
 rintro v c1 hc1 rfl
 unfold mulF
 by_cases h : w2 pos (chkE a b) (chkE p q) = 0
 rotate_left
 ·rw [if_neg h]
  refine zRF h ?_
  exact ⟨fun _ => rfl, fun e => absurd e h⟩
 obtain ⟨k1, k2, k3⟩ := w2_ok h
 obtain ⟨fa, fb, _⟩ := chk_ok k1
 obtain ⟨fp, fq, _⟩ := chk_ok k2
 have oa : a.Ok := ⟨ha, fa⟩
 have ob : b.Ok := ⟨hb, fb⟩
 have op : p.Ok := ⟨hp, fp⟩
 have oq : q.Ok := ⟨hq, fq⟩
 rw [if_pos h]
 obtain ⟨e1, he1⟩ : ∃ e1, e1 = mulD a.d p.d := ⟨_, rfl⟩
 obtain ⟨e2, he2⟩ : ∃ e2, e2 = mulD a.d q.d := ⟨_, rfl⟩
 obtain ⟨e3, he3⟩ : ∃ e3, e3 = mulD b.d p.d := ⟨_, rfl⟩
 obtain ⟨e4, he4⟩ : ∃ e4, e4 = mulD b.d q.d := ⟨_, rfl⟩
 have m1 : e1.Ok := by rw [he1]; exact mulD_ok _ _
 have m2 : e2.Ok := by rw [he2]; exact mulD_ok _ _
 have m3 : e3.Ok := by rw [he3]; exact mulD_ok _ _
 have m4 : e4.Ok := by rw [he4]; exact mulD_ok _ _
 rw [← he1, ← he2, ← he3, ← he4]
 unfold mnP mxP
 rw [← he1, ← he2, ← he3, ← he4]
 refine zRF h ?_
 refine v_loopR (fun S => ∃ tk t1 t2 t3 t4, S.ρ 2 = iv pos ∧ S.ρ 6 = .ptr (c + 2) 0 ∧ S.ρ 9 = .buf tk 0 4 none 3 ∧ S.ρ 10 = iv (worstE (worstE (worstE (worstE 0 (tE e1)) (tE e2)) (tE e3)) (tE e4)) ∧ S.σ (c + 2) = some ⟨[bv false, .sl .nil 1 [], iv 0, bv false, .sl .nil 1 [], iv 0], true⟩ ∧ S.σ tk = some ⟨[bv (ansD e1).neg, nats t1 (digs 18446744073709551616 (ansD e1).m), iv (ansD e1).e, bv (ansD e2).neg, nats t2 (digs 18446744073709551616 (ansD e2).m), iv (ansD e2).e, bv (ansD e3).neg, nats t3 (digs 18446744073709551616 (ansD e3).m), iv (ansD e3).e, bv (ansD e4).neg, nats t4 (digs 18446744073709551616 (ansD e4).m), iv (ansD e4).e], true⟩ ∧ c + 3 ≤ tk ∧ tk < S.c ∧ c1 ≤ S.c) ?_ ?_
 ·refine vwp_loop (fun k S => k ≤ 4 ∧ S.ρ 2 = iv pos ∧ S.ρ 6 = .ptr (c + 2) 0 ∧ S.ρ 44 = .agg [bv a.neg, nats ta a.l, iv a.e, bv p.neg, nats tc p.l, iv p.e, bv a.neg, nats ta a.l, iv a.e, bv q.neg, nats td q.l, iv q.e, bv b.neg, nats tb b.l, iv b.e, bv p.neg, nats tc p.l, iv p.e, bv b.neg, nats tb b.l, iv b.e, bv q.neg, nats td q.l, iv q.e] ∧ S.ρ 45 = iv ((4 - k : Nat) : Int) ∧ S.σ (c + 2) = some ⟨[bv false, .sl .nil 1 [], iv 0, bv false, .sl .nil 1 [], iv 0], true⟩ ∧ c1 ≤ S.c ∧
    match k with
    | 4 => S.ρ 9 = .sl .nil 1 [] ∧ S.ρ 10 = iv 0
    | 3 => ∃ tk t1, S.ρ 9 = .buf tk 0 1 none 3 ∧ S.ρ 10 = iv (worstE 0 (tE e1)) ∧ S.σ tk = some ⟨[bv (ansD e1).neg, nats t1 (digs 18446744073709551616 (ansD e1).m), iv (ansD e1).e], true⟩ ∧ c + 3 ≤ tk ∧ tk < S.c
    | 2 => ∃ tk t1 t2, S.ρ 9 = .buf tk 0 2 none 3 ∧ S.ρ 10 = iv (worstE (worstE 0 (tE e1)) (tE e2)) ∧ S.σ tk = some ⟨[bv (ansD e1).neg, nats t1 (digs 18446744073709551616 (ansD e1).m), iv (ansD e1).e, bv (ansD e2).neg, nats t2 (digs 18446744073709551616 (ansD e2).m), iv (ansD e2).e], true⟩ ∧ c + 3 ≤ tk ∧ tk < S.c
    | 1 => ∃ tk t1 t2 t3, S.ρ 9 = .buf tk 0 3 none 3 ∧ S.ρ 10 = iv (worstE (worstE (worstE 0 (tE e1)) (tE e2)) (tE e3)) ∧ S.σ tk = some ⟨[bv (ansD e1).neg, nats t1 (digs 18446744073709551616 (ansD e1).m), iv (ansD e1).e, bv (ansD e2).neg, nats t2 (digs 18446744073709551616 (ansD e2).m), iv (ansD e2).e, bv (ansD e3).neg, nats t3 (digs 18446744073709551616 (ansD e3).m), iv (ansD e3).e], true⟩ ∧ c + 3 ≤ tk ∧ tk < S.c
    | _ => ∃ tk t1 t2 t3 t4, S.ρ 9 = .buf tk 0 4 none 3 ∧ S.ρ 10 = iv (worstE (worstE (worstE (worstE 0 (tE e1)) (tE e2)) (tE e3)) (tE e4)) ∧ S.σ tk = some ⟨[bv (ansD e1).neg, nats t1 (digs 18446744073709551616 (ansD e1).m), iv (ansD e1).e, bv (ansD e2).neg, nats t2 (digs 18446744073709551616 (ansD e2).m), iv (ansD e2).e, bv (ansD e3).neg, nats t3 (digs 18446744073709551616 (ansD e3).m), iv (ansD e3).e, bv (ansD e4).neg, nats t4 (digs 18446744073709551616 (ansD e4).m), iv (ansD e4).e], true⟩ ∧ c + 3 ≤ tk ∧ tk < S.c) 4 ?_ ?_
  ·refine zS ?_
   exact yA
  rintro k ⟨ρ, σ, c2⟩ ⟨hk, r2, r6, r44, r45, s2, hc2, hm4⟩
  dsimp only at r2 r6 r44 r45 s2 hc2 hm4
  obtain rfl | rfl | rfl | rfl | rfl : k = 4 ∨ k = 3 ∨ k = 2 ∨ k = 1 ∨ k = 0 := by omega
  ·obtain ⟨r9, r10⟩ := hm4
   have f45 : ((4 - 4 : Nat) : Int) = 0 := rfl
   rw [f45] at r45
   refine zRF (jn r2 (jn r6 (jn r9 (jn r10 (jn r44 (jn r45 (jn s2 (jn @aix_0 (jn @axp_0 @axp_1))))))))) ?_
   refine s_call (DMul_spec ta tc a p (c2 + 1) oa op) (wSF (jn r44 r45)) ?_
   rw [← he1]
   rintro v c3 hc3 ⟨t1, rfl, _⟩
   refine zRF (jn r2 (jn r6 (jn r9 (jn r10 (jn r44 (jn r45 s2)))))) ?_
   refine s_call (worst_spec 0 (tE e1) (c3 + 1)) (wSF r10) ?_
   rintro v c4 hc4 rfl
   refine zRF (jn r2 (jn r6 (jn r9 (jn r10 (jn r44 (jn r45 s2)))))) ?_
   refine s_appS0 (sz := 3) (sz0 := 1) (u := .id c4) (ys := [bv (ansD e1).neg, nats t1 (digs 18446744073709551616 (ansD e1).m), iv (ansD e1).e]) (wSF r9) wS rfl (by decide) ?_
   refine zRF (jn r2 (jn r6 (jn r9 (jn r10 (jn r44 (jn r45 s2)))))) ?_
   refine ⟨3, by omega, by omega, ?_⟩
   (repeat' apply And.intro) <;> first | rfl | omega | assumption | (refine ⟨c4 + 1, t1, ?_⟩; (repeat' apply And.intro) <;> first | rfl | exact if_pos rfl | omega)
  ·obtain ⟨tk, t1, r9, r10, st, ht1, ht2⟩ := hm4
   have f45 : ((4 - 3 : Nat) : Int) = 1 := rfl
   rw [f45] at r45
   refine zRF (jn r2 (jn r6 (jn r9 (jn r10 (jn r44 (jn r45 (jn s2 (jn @aix_1 (jn @axp_0 @axp_1))))))))) ?_
   refine s_call (DMul_spec ta td a q (c2 + 1) oa oq) (wSF (jn r44 r45)) ?_
   rw [← he2]
   rintro v c3 hc3 ⟨t2, rfl, _⟩
   refine zRF (jn r2 (jn r6 (jn r9 (jn r10 (jn r44 (jn r45 s2)))))) ?_
   refine s_call (worst_spec (worstE 0 (tE e1)) (tE e2) (c3 + 1)) (wSF r10) ?_
   rintro v c4 hc4 rfl
   refine zRF (jn r2 (jn r6 (jn r9 (jn r10 (jn r44 (jn r45 s2)))))) ?_
   have hne : c + 2 ≠ tk := by omega
   have kb := kl_blk (t := tk) s2
   simp only [List.map_cons, List.map_nil, kl_lit, kl_sl] at kb
   refine s_appS (t := tk) (n := 1) (sz := 3) (cap := none) (u := .id c4) (cs := [bv (ansD e1).neg, nats t1 (digs 18446744073709551616 (ansD e1).m), iv (ansD e1).e]) (ys := [bv (ansD e2).neg, nats t2 (digs 18446744073709551616 (ansD e2).m), iv (ansD e2).e]) (wSF r9) (wSF st) rfl (by omega) wS rfl (by decide) (by decide) ?_
   (repeat (first | refine v_reg ?_ | refine v_last ?_ | refine vwp_seq ?_ | refine vwp_block ?_ | refine vwp_skip ?_ | refine vwp_exit ?_ | refine vwp_ret ?_ | refine v_cond ?_ | simp (maxSteps := 4000000) (disch := omega) only [vm, ite_true, ite_false, eq_self, reduceIte, Nat.reduceEqDiff, Option.map, vst, List.length_cons, List.length_nil, List.set_cons_zero, List.set_cons_succ, List.map_cons, List.map_nil, Option.map_some, Option.bind_some, Nat.reduceAdd, Nat.reduceLT, Nat.reduceLeDiff, Nat.add_zero, and_self, k_ne, Nat.add_left_cancel_iff, ne_eq, Int.reduceEq, Int.reduceLT, Int.reduceLE, List.cons_append, List.nil_append, Nat.reduceDiv, Nat.reduceMul, Int.reduceToNat, Int.reduceAdd, Int.cast_ofNat_Int, r2, r6, r9, r10, r44, r45, s2, kl_at, kl_lit, kl_agg, kl_sl, kl_ptr hne, kb] | refine And.intro (by omega) ?_))
   refine ⟨2, by omega, by omega, ?_⟩
   (repeat' apply And.intro) <;> first | rfl | omega | assumption | (refine ⟨tk, t1, t2, ?_⟩; (repeat' apply And.intro) <;> first | rfl | exact if_pos rfl | omega) | (unfold killσ; simp (disch := omega) only [supd_ne]; rw [s2]; rfl)
  ·obtain ⟨tk, t1, t2, r9, r10, st, ht1, ht2⟩ := hm4
   have f45 : ((4 - 2 : Nat) : Int) = 2 := rfl
   rw [f45] at r45
   refine zRF (jn r2 (jn r6 (jn r9 (jn r10 (jn r44 (jn r45 (jn s2 (jn @aix_2 (jn @axp_0 @axp_1))))))))) ?_
   refine s_call (DMul_spec tb tc b p (c2 + 1) ob op) (wSF (jn r44 r45)) ?_
   rw [← he3]
   rintro v c3 hc3 ⟨t3, rfl, _⟩
   refine zRF (jn r2 (jn r6 (jn r9 (jn r10 (jn r44 (jn r45 s2)))))) ?_
   refine s_call (worst_spec (worstE (worstE 0 (tE e1)) (tE e2)) (tE e3) (c3 + 1)) (wSF r10) ?_
   rintro v c4 hc4 rfl
   refine zRF (jn r2 (jn r6 (jn r9 (jn r10 (jn r44 (jn r45 s2)))))) ?_
   have hne : c + 2 ≠ tk := by omega
   have kb := kl_blk (t := tk) s2
   simp only [List.map_cons, List.map_nil, kl_lit, kl_sl] at kb
   refine s_appS (t := tk) (n := 2) (sz := 3) (cap := none) (u := .id c4) (cs := [bv (ansD e1).neg, nats t1 (digs 18446744073709551616 (ansD e1).m), iv (ansD e1).e, bv (ansD e2).neg, nats t2 (digs 18446744073709551616 (ansD e2).m), iv (ansD e2).e]) (ys := [bv (ansD e3).neg, nats t3 (digs 18446744073709551616 (ansD e3).m), iv (ansD e3).e]) (wSF r9) (wSF st) rfl (by omega) wS rfl (by decide) (by decide) ?_
   (repeat (first | refine v_reg ?_ | refine v_last ?_ | refine vwp_seq ?_ | refine vwp_block ?_ | refine vwp_skip ?_ | refine vwp_exit ?_ | refine vwp_ret ?_ | refine v_cond ?_ | simp (maxSteps := 4000000) (disch := omega) only [vm, ite_true, ite_false, eq_self, reduceIte, Nat.reduceEqDiff, Option.map, vst, List.length_cons, List.length_nil, List.set_cons_zero, List.set_cons_succ, List.map_cons, List.map_nil, Option.map_some, Option.bind_some, Nat.reduceAdd, Nat.reduceLT, Nat.reduceLeDiff, Nat.add_zero, and_self, k_ne, Nat.add_left_cancel_iff, ne_eq, Int.reduceEq, Int.reduceLT, Int.reduceLE, List.cons_append, List.nil_append, Nat.reduceDiv, Nat.reduceMul, Int.reduceToNat, Int.reduceAdd, Int.cast_ofNat_Int, r2, r6, r9, r10, r44, r45, s2, kl_at, kl_lit, kl_agg, kl_sl, kl_ptr hne, kb] | refine And.intro (by omega) ?_))
   refine ⟨1, by omega, by omega, ?_⟩
   (repeat' apply And.intro) <;> first | rfl | omega | assumption | (refine ⟨tk, t1, t2, t3, ?_⟩; (repeat' apply And.intro) <;> first | rfl | exact if_pos rfl | omega) | (unfold killσ; simp (disch := omega) only [supd_ne]; rw [s2]; rfl)
  ·obtain ⟨tk, t1, t2, t3, r9, r10, st, ht1, ht2⟩ := hm4
   have f45 : ((4 - 1 : Nat) : Int) = 3 := rfl
   rw [f45] at r45
   refine zRF (jn r2 (jn r6 (jn r9 (jn r10 (jn r44 (jn r45 (jn s2 (jn @aix_3 (jn @axp_0 @axp_1))))))))) ?_
   refine s_call (DMul_spec tb td b q (c2 + 1) ob oq) (wSF (jn r44 r45)) ?_
   rw [← he4]
   rintro v c3 hc3 ⟨t4, rfl, _⟩
   refine zRF (jn r2 (jn r6 (jn r9 (jn r10 (jn r44 (jn r45 s2)))))) ?_
   refine s_call (worst_spec (worstE (worstE (worstE 0 (tE e1)) (tE e2)) (tE e3)) (tE e4) (c3 + 1)) (wSF r10) ?_
   rintro v c4 hc4 rfl
   refine zRF (jn r2 (jn r6 (jn r9 (jn r10 (jn r44 (jn r45 s2)))))) ?_
   have hne : c + 2 ≠ tk := by omega
   have kb := kl_blk (t := tk) s2
   simp only [List.map_cons, List.map_nil, kl_lit, kl_sl] at kb
   refine s_appS (t := tk) (n := 3) (sz := 3) (cap := none) (u := .id c4) (cs := [bv (ansD e1).neg, nats t1 (digs 18446744073709551616 (ansD e1).m), iv (ansD e1).e, bv (ansD e2).neg, nats t2 (digs 18446744073709551616 (ansD e2).m), iv (ansD e2).e, bv (ansD e3).neg, nats t3 (digs 18446744073709551616 (ansD e3).m), iv (ansD e3).e]) (ys := [bv (ansD e4).neg, nats t4 (digs 18446744073709551616 (ansD e4).m), iv (ansD e4).e]) (wSF r9) (wSF st) rfl (by omega) wS rfl (by decide) (by decide) ?_
   (repeat (first | refine v_reg ?_ | refine v_last ?_ | refine vwp_seq ?_ | refine vwp_block ?_ | refine vwp_skip ?_ | refine vwp_exit ?_ | refine vwp_ret ?_ | refine v_cond ?_ | simp (maxSteps := 4000000) (disch := omega) only [vm, ite_true, ite_false, eq_self, reduceIte, Nat.reduceEqDiff, Option.map, vst, List.length_cons, List.length_nil, List.set_cons_zero, List.set_cons_succ, List.map_cons, List.map_nil, Option.map_some, Option.bind_some, Nat.reduceAdd, Nat.reduceLT, Nat.reduceLeDiff, Nat.add_zero, and_self, k_ne, Nat.add_left_cancel_iff, ne_eq, Int.reduceEq, Int.reduceLT, Int.reduceLE, List.cons_append, List.nil_append, Nat.reduceDiv, Nat.reduceMul, Int.reduceToNat, Int.reduceAdd, Int.cast_ofNat_Int, r2, r6, r9, r10, r44, r45, s2, kl_at, kl_lit, kl_agg, kl_sl, kl_ptr hne, kb] | refine And.intro (by omega) ?_))
   refine ⟨0, by omega, by omega, ?_⟩
   (repeat' apply And.intro) <;> first | rfl | omega | assumption | (refine ⟨tk, t1, t2, t3, t4, ?_⟩; (repeat' apply And.intro) <;> first | rfl | exact if_pos rfl | omega) | (unfold killσ; simp (disch := omega) only [supd_ne]; rw [s2]; rfl)
  ·obtain ⟨tk, t1, t2, t3, t4, r9, r10, st, ht1, ht2⟩ := hm4
   have f45 : ((4 - 0 : Nat) : Int) = 4 := rfl
   rw [f45] at r45
   refine zRF (jn r2 (jn r6 (jn r9 (jn r10 (jn r44 (jn r45 s2)))))) ?_
   refine ⟨tk, t1, t2, t3, t4, ?_⟩
   exact yA
 rintro ⟨ρ, σ, c2⟩ ⟨tk, t1, t2, t3, t4, r2, r6, r9, r10, s2, st, ht1, ht2, hc2⟩
 dsimp only at r2 r6 r9 r10 s2 st ht2 hc2
 show VWP _ _ _ (retQ _ fun r c' => c ≤ c' ∧ AnsF c c' (mulW e1 e2 e3 e4) _ _ r) _
 by_cases g : mulW e1 e2 e3 e4 = 0
 rotate_left
 ·unfold mulW at g
  refine zRF (jn r2 (jn r6 (jn r9 (jn r10 (jn s2 g))))) ?_
  exact ⟨fun _ => rfl, fun e => absurd e g⟩
 obtain ⟨z1, z2, z3, z4⟩ := mulW_zero g
 obtain ⟨o1, d1⟩ := told_ok m1 z1
 obtain ⟨o2, d2⟩ := told_ok m2 z2
 obtain ⟨o3, d3⟩ := told_ok m3 z3
 obtain ⟨o4, d4⟩ := told_ok m4 z4
 have g' : (worstE (worstE (worstE (worstE 0 (tE e1)) (tE e2)) (tE e3)) (tE e4)) = 0 := g
 rw [ansD_ok z1, ansD_ok z2, ansD_ok z3, ansD_ok z4] at st
 refine vwp_freeze 9 tk 0 4 3 none _ r9 st (by omega) (by simp) ?_
 have hso : List.map V.solid (List.take (4 * 3) (List.drop 0 [bv e1.neg, nats t1 (digs 18446744073709551616 e1.m), iv e1.e, bv e2.neg, nats t2 (digs 18446744073709551616 e2.m), iv e2.e, bv e3.neg, nats t3 (digs 18446744073709551616 e3.m), iv e3.e, bv e4.neg, nats t4 (digs 18446744073709551616 e4.m), iv e4.e])) = [bv e1.neg, nats t1 (digs 18446744073709551616 e1.m), iv e1.e, bv e2.neg, nats t2 (digs 18446744073709551616 e2.m), iv e2.e, bv e3.neg, nats t3 (digs 18446744073709551616 e3.m), iv e3.e, bv e4.neg, nats t4 (digs 18446744073709551616 e4.m), iv e4.e] := rfl
 unfold VM.frozen
 rw [hso, fr_0]
 have hne : c + 2 ≠ tk := by omega
 refine zRF (jn r2 (jn r6 (jn r9 (jn r10 (jn s2 g'))))) ?_
 refine s_call (hull4_spec (.id tk) t1 t2 t3 t4 (RD.of e1) (RD.of e2) (RD.of e3) (RD.of e4) pos c2 o1 o2 o3 o4 k3) wSr ?_
 rw [d1, d2, d3, d4]
 rintro v c3 hc3 ⟨t, u, cm, g3, g4, rfl, gt, gu⟩
 refine zRF (jn r2 (jn r6 (jn r9 (jn r10 (jn s2 (jn g' hne)))))) ?_
 exact ⟨fun h => absurd g h, fun _ => ⟨t, u, cm, by omega, by omega, by rfl, gt.mono (by omega) (Nat.le_refl _), gu⟩⟩

theorem rmul_spec (t u : Tok) (x y : Dy) (c : Nat) (hx : RNum x) (hy : RNum y) (bx : bl x.m ≤ 536870912) (by0 : bl y.m ≤ 536870912) :
  VSpec Tryz.prog F.r08Mul c [fV t x, fV u y] (fun r _ => ∃ tk, r = fV tk (mulD x y)) := by
 refine sG hm G.r08Mul ?_
 unfold C.r08Mul R.r08Mul cD
 have h1 := hx.lo
 have h2 := hx.hi
 have h3 := hy.lo
 have h4 := hy.hi
 have hb := bl_mul_le x.m y.m
 refine zR ?_
 refine s_call (mul06_spec t u x.neg y.neg x.m y.m (c + 3) (by omega) (by omega)) wS ?_
 rintro v c1 hc1 ⟨tk, rfl⟩
 refine zR ?_
 refine s_call (of08_spec (zneg (x.neg != y.neg) (x.m * y.m)) tk (x.m * y.m) (x.e + y.e) c1 (by omega) (fun h => by unfold zneg; rw [h]; simp) (by omega) (by omega)) wS ?_
 rw [dyOf_zneg]
 rintro v c2 hc2 ⟨tq, rfl⟩
 refine zR ?_
 exact ⟨tq, rfl⟩


theorem wpow2_spec (an : Bool) (ta : Tok) (a : List Nat) (c : Nat) (ha : Lim 18446744073709551616 a) (hna : a.length ≤ 1073741824) :
  VSpec Tryz.prog F.whole_Pow c [whV an ta a, iv 2] (fun r _ => WAns (false, val 18446744073709551616 a * val 18446744073709551616 a) r) := by
 refine sG hm G.whole_Pow ?_
 unfold C.whole_Pow R.whole_Pow cD
 have hsq : val 18446744073709551616 a ^ 2 = val 18446744073709551616 a * val 18446744073709551616 a := Nat.pow_two _
 have hp := fun c => pow_spec ta a 2 c ha hna (by decide)
 rw [hsq] at hp
 have h01 : ¬ (0 : Int) = 1 := by decide
 have h22 : decide ((2 : Int) % 2 = 1) = false := by decide
 cases an
 ·refine zR ?_
  refine s_call (hp (c + 2)) wS ?_
  rintro v c1 hc1 ht
  generalize val 18446744073709551616 a * val 18446744073709551616 a = n at *
  obtain ⟨t3, l3, e3, rfl, hr⟩ := wres_told false n c1 ht
  refine zR ?_
  refine s_call (hr c1) wS ?_
  rintro v c2 hc2 (⟨h, tk, rfl⟩ | ⟨h, rfl⟩)
  ·refine zR ?_
   exact .inl ⟨h, tk, rfl⟩
  ·refine zR ?_
   exact .inr ⟨h, rfl⟩
 ·refine zR ?_
  refine s_call (hp (c + 2)) wS ?_
  rintro v c1 hc1 ht
  generalize val 18446744073709551616 a * val 18446744073709551616 a = n at *
  obtain ⟨t3, l3, e3, rfl, hr⟩ := wres_told false n c1 ht
  refine zRF (jn h01 h22) ?_
  refine s_call (hr c1) (wSF h22) ?_
  rintro v c2 hc2 (⟨h, tk, rfl⟩ | ⟨h, rfl⟩)
  ·refine zR ?_
   exact .inl ⟨h, tk, rfl⟩
  ·refine zR ?_
   exact .inr ⟨h, rfl⟩
theorem DPow2_spec (t : Tok) (a : RD) (c : Nat) (ha : a.Ok) : VSpec Tryz.prog F.dyadic_Pow c [rdV t a, iv 2] (fun r c' => AnsD c c' (mulD a.d a.d) r) := by
 refine sG hm G.dyadic_Pow ?_
 unfold C.dyadic_Pow R.dyadic_Pow cD
 have na := ha.num
 have a1 := na.lo
 have a2 := na.hi
 have la := na.arg.len
 have g3 : ¬ (3 : Int) = 0 := by decide
 have g4 : ¬ (1099511627776 : Int) < 2 := by decide
 have g5 : (0 : Int) < 2 := by decide
 refine zR ?_
 refine s_call (read_spec a.neg t a.l a.e (c + 2) ha.arg ha.fit) wS ?_
 rintro v c1 hc1 ⟨tx, rfl, _⟩
 have e1 : dyOf a.neg (val 18446744073709551616 a.l) a.e = a.d := rfl
 rw [e1]
 have ho := mul_oddD na.ok na.ok
 refine zR ?_
 refine s_call (wpow2_spec a.d.neg tx (digs 18446744073709551616 a.d.m) (c1 + 1) na.arg.lim (by omega)) wS ?_
 rw [val_digs two64]
 have em : mulD a.d a.d = dyOf false (a.d.m * a.d.m) (a.d.e + a.d.e) := by unfold mulD; rw [show (a.d.neg != a.d.neg) = false by cases a.d.neg <;> rfl]
 rw [em]
 have hz : a.d.m * a.d.m = 0 → a.d.e = 0 := fun h => by
  have : a.d.m = 0 := by rcases Nat.mul_eq_zero.1 h with h | h <;> exact h
  rw [na.ok.zero this]; rfl
 generalize a.d.m * a.d.m = M at *
 generalize a.d.e = e at *
 rintro v c2 hc2 (⟨h, tk, rfl⟩ | ⟨h, rfl⟩)
 ·replace h : bl M ≤ 67108864 := h
  have e2 : e * 2 = e + e := by omega
  have hd : (1099511627776 : Int) / 2 = 549755813888 := by decide
  have hfin : ∀ cc, c2 ≤ cc → VSpec Tryz.prog F.dyadic_told cc [whV (zneg false M) tk (digs 18446744073709551616 M), iv (e * 2)] (fun r c' => AnsD c c' (dyOf false M (e + e)) r) := fun cc hcc => by
   have h := dtold_spec (zneg false M) tk (digs 18446744073709551616 M) (e * 2) cc (lim_digs two64 M) (len_bl (by omega)) (by omega) (by omega) (.inr (by rw [val_digs two64]; exact Nat.le_trans (bl_od _) h))
   rw [val_digs two64, dyOf_zneg, e2] at h
   rw [e2]
   exact h.mono fun r c' hr => hr.mono (by omega) (Nat.le_refl _)
  have hez : zneg false M = false := rfl
  rw [hez] at hfin
  by_cases g0 : e = 0
  ·subst g0
   refine zRF hez ?_
   refine s_call (hfin (c2 + 1) (by omega)) (wSF hez) ?_
   rintro v c3 hc3 ⟨tq, rfl, htq⟩
   refine zR ?_
   exact ⟨tq, rfl, htq.mono (by omega) (by omega)⟩
  ·have hM : M % 2 = 1 := ho.resolve_left (fun h0 => g0 (hz h0))
   have ed := dyOf_odd (neg := false) (e := e + e) hM
   have hbad : ¬ fitE (e + e) → tE (dyOf false M (e + e)) = 80 := fun hf => by
    rw [ed]
    unfold tE
    rw [if_neg (by show ¬ 67108864 < bl M; omega), if_neg hf]
   by_cases g1 : (549755813888 : Int) < e
   ·have ht := hbad (fun hf => by unfold fitE at hf; omega)
    refine zRF (jn hez (jn g0 (jn g4 (jn g5 (jn hd g1))))) ?_
    refine ⟨.nil, ?_, .inl ⟨rfl, ?_⟩⟩
    ·rw [ansD_bad (by rw [ht]; decide), ht]; rfl
    ·rw [ansD_bad (by rw [ht]; decide)]; rfl
   ·by_cases g2 : e < -549755813888
    ·have ht := hbad (fun hf => by unfold fitE at hf; omega)
     refine zRF (jn hez (jn g0 (jn g4 (jn g5 (jn hd (jn g1 (jn g2 @n_neg'))))))) ?_
     refine ⟨.nil, ?_, .inl ⟨rfl, ?_⟩⟩
     ·rw [ansD_bad (by rw [ht]; decide), ht]; rfl
     ·rw [ansD_bad (by rw [ht]; decide)]; rfl
    ·refine zRF (jn hez (jn g0 (jn g4 (jn g5 (jn hd (jn g1 (jn g2 @n_neg'))))))) ?_
     refine s_call (hfin (c2 + 1) (by omega)) (wSF hez) ?_
     rintro v c3 hc3 ⟨tq, rfl, htq⟩
     refine zR ?_
     exact ⟨tq, rfl, htq.mono (by omega) (by omega)⟩
 ·have hM : M % 2 = 1 := ho.resolve_left (fun h0 => by replace h : 67108864 < bl M := h; rw [h0, bl_zero] at h; omega)
  have ed := dyOf_odd (neg := false) (e := e + e) hM
  have ht : tE (dyOf false M (e + e)) = 3 := by rw [ed]; exact if_pos h
  refine zRF g3 ?_
  refine ⟨.nil, ?_, .inl ⟨rfl, ?_⟩⟩
  ·rw [ansD_bad (by rw [ht]; decide), ht]; rfl
  ·rw [ansD_bad (by rw [ht]; decide)]; rfl

def RD.sz (a : RD) : RD := ⟨false, a.l, a.e⟩
theorem RD.Ok.sz {a : RD} (h : a.Ok) : a.sz.Ok := ⟨h.arg, h.fit⟩
theorem rd0_ok : rd0.Ok := ⟨⟨.nil, by decide⟩, by decide, by decide⟩
theorem rd0_d : rd0.d = dy0 := by unfold RD.d dyOf; exact if_pos rfl
theorem sq_sz (a : RD) : mulD a.sz.d a.sz.d = mulD a.d a.d := by
 unfold mulD
 have h1 : a.sz.d.m = a.d.m := by unfold RD.d RD.sz dyOf; split <;> rfl
 have h2 : a.sz.d.e = a.d.e := by unfold RD.d RD.sz dyOf; split <;> rfl
 rw [h1, h2, show (a.sz.d.neg != a.sz.d.neg) = false by cases a.sz.d.neg <;> rfl, show (a.d.neg != a.d.neg) = false by cases a.d.neg <;> rfl]
theorem size_spec (t : Tok) (a : RD) (c : Nat) : VSpec Tryz.prog F.span_size c [rdV t a] (fun r _ => r = rdV t a.sz) := by
 refine sG hm G.span_size ?_
 unfold C.span_size R.span_size cD
 refine zR ?_
 exact yE
def nzB (x y : Dy) : Bool := decide (x.sg ≤ 0) && decide (0 ≤ y.sg)
theorem nought_spec (ta tb : Tok) (a b : RD) (c : Nat) (ha : Arg a.l) (hb : Arg b.l) : VSpec Tryz.prog F.span_nought c [rsV ta tb a b] (fun r _ => r = bv (nzB a.d b.d)) := by
 refine sG hm G.span_nought ?_
 unfold C.span_nought R.span_nought cD
 unfold nzB
 refine zR ?_
 refine s_call (dsign_spec ta a (c + 1) ha) wS ?_
 rintro v c1 hc1 rfl
 by_cases g : a.d.sg ≤ 0
 ·rw [decide_eq_true g]
  refine zRF g ?_
  refine s_call (dsign_spec tb b c1 hb) wS ?_
  rintro v c2 hc2 rfl
  refine zRF g ?_
  exact yE
 ·rw [decide_eq_false g]
  refine zRF g ?_
  exact yE
def sqL (x y : Dy) : Dy := if nzB x y = true then dy0 else if 0 < cmpD (dyOf false x.m x.e) (dyOf false y.m y.e) then mulD y y else mulD x x
def sqH (x y : Dy) : Dy := if 0 < cmpD (dyOf false x.m x.e) (dyOf false y.m y.e) then mulD x x else mulD y y
theorem sz_d (a : RD) : a.sz.d = dyOf false a.d.m a.d.e := by
 unfold RD.d RD.sz
 show dyOf false (val 18446744073709551616 a.l) a.e = _
 have h := dyOf_id (dyOf_ok false (val 18446744073709551616 a.l) a.e)
 rw [← h]
 unfold dyOf
 by_cases g : val 18446744073709551616 a.l = 0
 ·rw [if_pos g, if_pos g]; rfl
 ·rw [if_neg g, if_neg g]
theorem mul_0 : mulD dy0 dy0 = dy0 := by unfold mulD dyOf; exact if_pos rfl
theorem sizes_spec (ta tb : Tok) (a b : RD) (c : Nat) (ha : a.Ok) (hb : b.Ok) :
  VSpec Tryz.prog F.span_sizes c [rsV ta tb a b] (fun r _ => ∃ tl th, ∃ lo hi : RD, r = rsV tl th lo hi ∧ lo.Ok ∧ hi.Ok ∧ mulD lo.d lo.d = sqL a.d b.d ∧ mulD hi.d hi.d = sqH a.d b.d) := by
 refine sG hm G.span_sizes ?_
 unfold C.span_sizes R.span_sizes cD
 unfold sqL sqH
 rw [← sz_d, ← sz_d]
 refine zRF @nb_app ?_
 refine s_call (size_spec ta a (c + 2)) wS ?_
 rintro v c1 hc1 rfl
 refine zRF @nb_app ?_
 refine s_call (size_spec tb b c1) wS ?_
 rintro v c2 hc2 rfl
 refine zRF @nb_app ?_
 refine s_call (Compare_spec ta tb a.sz b.sz (c2 + 2) ha.sz hb.sz) wS ?_
 rintro v c3 hc3 rfl
 by_cases g : 0 < cmpD a.sz.d b.sz.d
 ·rw [if_pos g, if_pos g]
  refine zRF g ?_
  refine s_call (nought_spec ta tb a b c3 ha.arg hb.arg) wS ?_
  rintro v c4 hc4 rfl
  cases hn : nzB a.d b.d with
  | true =>
   refine zR ?_
   exact ⟨_, _, rd0, a.sz, rfl, rd0_ok, ha.sz, by rw [rd0_d, mul_0], sq_sz a⟩
  | false =>
   refine zR ?_
   exact ⟨_, _, b.sz, a.sz, rfl, hb.sz, ha.sz, sq_sz b, sq_sz a⟩
 ·rw [if_neg g, if_neg g]
  refine zRF g ?_
  refine s_call (nought_spec ta tb a b c3 ha.arg hb.arg) wS ?_
  rintro v c4 hc4 rfl
  cases hn : nzB a.d b.d with
  | true =>
   refine zR ?_
   exact ⟨_, _, rd0, b.sz, rfl, rd0_ok, hb.sz, by rw [rd0_d, mul_0], sq_sz b⟩
  | false =>
   refine zR ?_
   exact ⟨_, _, a.sz, b.sz, rfl, ha.sz, hb.sz, sq_sz a, sq_sz b⟩
theorem sPow2_spec (ta tb : Tok) (a b : RD) (pos : Int) (c : Nat) (ha : a.Ok) (hb : b.Ok) (hk : chkE a b = 0) (hp : fitE pos) :
  VSpec Tryz.prog F.span_Pow c [rsV ta tb a b, iv 2, iv pos] (fun r c' => AnsF c c' (worstE (tE (sqL a.d b.d)) (tE (sqH a.d b.d))) (rD (sqL a.d b.d) pos false) (rD (sqH a.d b.d) pos true) r) := by
 refine sG hm G.span_Pow ?_
 unfold C.span_Pow R.span_Pow cD
 have hp' := hp
 unfold fitE at hp'
 have l1 : ¬ (2 : Int) < 0 := by decide
 have l2 : ¬ (1000 : Int) < 2 := by decide
 have l3 : ¬ pos < -1099511627776 := by omega
 have l4 : ¬ 1099511627776 < pos := by omega
 have l5 : (2 : Int) % 2 = 0 := by decide
 refine zR ?_
 refine s_call (check_spec ta tb a b (c + 2) ha.arg hb.arg) wS ?_
 rw [hk]
 rintro v c1 hc1 rfl
 refine zRF (jn l1 (jn l2 (jn l3 (jn l4 l5)))) ?_
 refine s_call (sizes_spec ta tb a b c1 ha hb) wS ?_
 rintro v c2 hc2 ⟨tl, th, lo, hi, rfl, ol, oh, el, eh⟩
 refine zR ?_
 refine s_call (DPow2_spec tl lo c2 ol) wS ?_
 rw [el]
 rintro v c3 hc3 ⟨t1, rfl, ht1⟩
 refine zR ?_
 refine s_call (DPow2_spec th hi (c3 + 1) oh) wS ?_
 rw [eh]
 rintro v c4 hc4 ⟨t2, rfl, ht2⟩
 have ok1 : (sqL a.d b.d).Ok := by rw [← el]; exact mulD_ok _ _
 have ok2 : (sqH a.d b.d).Ok := by rw [← eh]; exact mulD_ok _ _
 generalize sqL a.d b.d = x at *
 generalize sqH a.d b.d = y at *
 refine zR ?_
 refine s_call (worst_spec (tE x) (tE y) (c4 + 1)) wS ?_
 rintro v c5 hc5 rfl
 by_cases g : worstE (tE x) (tE y) = 0
 ·obtain ⟨g1, g2⟩ := worst_zero.1 g
  obtain ⟨k1, e1⟩ := told_ok ok1 g1
  obtain ⟨k2, e2⟩ := told_ok ok2 g2
  refine zRF g ?_
  refine s_call (outward_spec t1 t2 (RD.of x) (RD.of y) pos c5 k1 k2 hp) (by rw [ansD_ok g1, ansD_ok g2]; refine zS ?_; rfl) ?_
  rw [e1, e2]
  rintro v c6 hc6 ⟨t, u, cm, g3, g4, rfl, gt, gu⟩
  refine zR ?_
  exact ⟨fun h => absurd rfl h, fun _ => ⟨t, u, cm, by omega, by omega, rfl, gt.mono (by omega) (Nat.le_refl _), gu⟩⟩
 ·refine zRF g ?_
  exact ⟨fun _ => rfl, fun h => absurd h g⟩
theorem ssq_spec (ta tb : Tok) (a b : RD) (pos : Int) (c : Nat) (ha : a.Ok) (hb : b.Ok) (hk : chkE a b = 0) (hp : fitE pos) :
  VSpec Tryz.prog F.span_Square c [rsV ta tb a b, iv pos] (fun r c' => AnsF c c' (worstE (tE (sqL a.d b.d)) (tE (sqH a.d b.d))) (rD (sqL a.d b.d) pos false) (rD (sqH a.d b.d) pos true) r) := by
 refine sG hm G.span_Square ?_
 unfold C.span_Square R.span_Square cD
 refine zR ?_
 refine s_call (sPow2_spec ta tb a b pos (c + 2) ha hb hk hp) wS ?_
 rintro v c2 hc2 hv
 generalize worstE (tE (sqL a.d b.d)) (tE (sqH a.d b.d)) = f at *
 by_cases g : f = 0
 ·obtain ⟨t, u, cm, g3, g4, rfl, gt, gu⟩ := hv.ok g
  refine zR ?_
  exact ⟨fun h => absurd g h, fun _ => ⟨t, u, cm, by omega, by omega, rfl, gt.mono (by omega) (Nat.le_refl _), gu⟩⟩
 ·have hb := hv.bad g
  subst hb
  refine zR ?_
  exact ⟨fun _ => rfl, fun h => absurd h g⟩

theorem dy10_spec (t : Tok) (a : RD) (c : Nat) : VSpec Tryz.prog F.l10dy c [rdV t a] (fun r _ => r = rdV t a) := by
 refine sG hm G.l10dy ?_
 unfold C.l10dy R.l10dy cD
 refine zR ?_
 exact yE
theorem in10_spec (t u : Tok) (a b : RD) (c : Nat) : VSpec Tryz.prog F.l10in c [rsV t u a b] (fun r _ => r = rsV t u a b) := by
 refine sG hm G.l10in ?_
 unfold C.l10in R.l10in cD
 refine zR ?_
 refine s_call (dy10_spec t a (c + 2)) wS ?_
 rintro v c1 hc1 rfl
 refine zR ?_
 refine s_call (dy10_spec u b c1) wS ?_
 rintro v c2 hc2 rfl
 refine zR ?_
 exact yE
theorem rd10_spec (t : Tok) (a : RD) (c : Nat) (ha : a.Ok) : VSpec Tryz.prog F.l10read c [rdV t a] (fun r _ => ∃ tk, r = fV tk a.d) := by
 refine sG hm G.l10read ?_
 unfold C.l10read R.l10read cD
 have hf := ha.fit
 unfold fitE at hf
 have hb := ha.arg.bl
 refine zR ?_
 refine s_call (of06_spec a.neg t a.l (c + 2) ha.arg) wS ?_
 rintro v c1 hc1 ⟨tk, rfl⟩
 refine zR ?_
 refine s_call (of08_spec (zneg a.neg (val 18446744073709551616 a.l)) tk (val 18446744073709551616 a.l) a.e c1 (by omega) (fun h => by unfold zneg; rw [h]; simp) (by omega) (by omega)) wS ?_
 rw [dyOf_zneg]
 rintro v c2 hc2 ⟨tq, rfl⟩
 refine zR ?_
 exact ⟨tq, rfl⟩
theorem rds10_spec (t u : Tok) (a b : RD) (c : Nat) (ha : a.Ok) (hb : b.Ok) : VSpec Tryz.prog F.l10reads c [rsV t u a b] (fun r _ => ∃ tk uk, r = fsV tk uk a.d b.d) := by
 refine sG hm G.l10reads ?_
 unfold C.l10reads R.l10reads cD
 refine zR ?_
 refine s_call (rd10_spec t a (c + 2) ha) wS ?_
 rintro v c1 hc1 ⟨tk, rfl⟩
 refine zR ?_
 refine s_call (rd10_spec u b c1 hb) wS ?_
 rintro v c2 hc2 ⟨uk, rfl⟩
 refine zR ?_
 exact ⟨tk, uk, rfl⟩

structure Low (E : Int) (d : Dy) : Prop where
 le : E ≤ d.e
 le0 : E ≤ 0
theorem low_of {E : Int} {neg : Bool} {n : Nat} {e : Int} (h : E ≤ e) (h0 : E ≤ 0) : Low E (dyOf neg n e) := ⟨(dyOf_zv (neg := neg) (n := n) h h0).2, h0⟩
theorem zv_of {E : Int} {neg : Bool} {n : Nat} {e : Int} (h : E ≤ e) (h0 : E ≤ 0) : zv E (dyOf neg n e) = (if neg = true then -1 else 1) * ((n * 2 ^ (e - E).toNat : Nat) : Int) := (dyOf_zv (neg := neg) (n := n) h h0).1
theorem zv_dy0 (E : Int) : zv E dy0 = 0 := by rw [zv_sign]; simp [dy0]
theorem low_dy0 {E : Int} (h : E ≤ 0) : Low E dy0 := ⟨h, h⟩
theorem mul_zv {E F : Int} {x y : Dy} (hx : Low E x) (hy : Low F y) : zv (E + F) (mulD x y) = zv E x * zv F y ∧ Low (E + F) (mulD x y) := by
 have h1 := hx.le
 have h2 := hy.le
 have h3 := hx.le0
 have h4 := hy.le0
 refine ⟨?_, low_of (by omega) (by omega)⟩
 unfold mulD
 rw [zv_of (by omega) (by omega), zv_sign, zv_sign]
 have e1 : (x.e + y.e - (E + F)).toNat = (x.e - E).toNat + (y.e - F).toNat := by omega
 rw [e1, Nat.pow_add]
 have e2 : x.m * y.m * (2 ^ (x.e - E).toNat * 2 ^ (y.e - F).toNat) = x.m * 2 ^ (x.e - E).toNat * (y.m * 2 ^ (y.e - F).toNat) := by ac_rfl
 rw [e2, Int.natCast_mul]
 generalize ((x.m * 2 ^ (x.e - E).toNat : Nat) : Int) = X
 generalize ((y.m * 2 ^ (y.e - F).toNat : Nat) : Int) = Y
 cases x.neg <;> cases y.neg <;> simp <;> grind
theorem add_zv {E : Int} {x y : Dy} (hx : Low E x) (hy : Low E y) : zv E (addD x y) = zv E x + zv E y ∧ Low E (addD x y) := by
 have h3 := hx.le0
 rw [addD_at hx.le hy.le]
 unfold ofZ
 refine ⟨?_, low_of (by omega) h3⟩
 rw [zv_of (by omega) h3, Int.sub_self]
 generalize zv E x + zv E y = z
 by_cases g : z < 0
 ·rw [decide_eq_true g]; simp; omega
 ·rw [decide_eq_false g]; simp; omega
theorem neg_zv {E : Int} {x : Dy} (hx : Low E x) : Low E (negD x) := by
 unfold negD
 split
 ·exact low_dy0 hx.le0
 ·exact ⟨hx.le, hx.le0⟩
theorem rD_zv {E : Int} {x : Dy} {pos : Int} (ok : x.Ok) (hx : Low E x) (hp : E ≤ pos) :
  zv E (rD x pos false) = zv E x / ((2 ^ (pos - E).toNat : Nat) : Int) * ((2 ^ (pos - E).toNat : Nat) : Int) ∧ zv E (rD x pos true) = -((-zv E x) / ((2 ^ (pos - E).toNat : Nat) : Int) * ((2 ^ (pos - E).toNat : Nat) : Int)) ∧ ∀ up, Low E (rD x pos up) := by
 have h1 := hx.le
 have h0 := hx.le0
 have hu : (0 : Int) < ((2 ^ (pos - E).toNat : Nat) : Int) := by have := Nat.two_pow_pos (pos - E).toNat; omega
 by_cases g : x.m = 0 ∨ pos ≤ x.e
 ·have e : ∀ up, rD x pos up = x := fun up => if_pos g
  rw [e, e]
  obtain ⟨k, hk⟩ : ∃ k, zv E x = k * ((2 ^ (pos - E).toNat : Nat) : Int) := by
   rcases g with g | g
   ·exact ⟨0, by rw [zv_sign, g]; simp⟩
   ·refine ⟨(if x.neg = true then -1 else 1) * ((x.m * 2 ^ (x.e - pos).toNat : Nat) : Int), ?_⟩
    rw [zv_sign, Int.mul_assoc, ← Int.natCast_mul, Nat.mul_assoc, ← Nat.pow_add, show (x.e - pos).toNat + (pos - E).toNat = (x.e - E).toNat by omega]
  refine ⟨?_, ?_, fun up => by rw [e]; exact hx⟩
  ·rw [hk, Int.mul_ediv_cancel _ (Int.ne_of_gt hu)]
  ·have e9 := (Int.neg_mul k ((2 ^ (pos - E).toNat : Nat) : Int)).symm
   rw [hk, e9, Int.mul_ediv_cancel _ (Int.ne_of_gt hu), Int.neg_mul, Int.neg_neg]
 ·have gm : x.m ≠ 0 := fun h => g (.inl h)
  have gp : x.e < pos := by
   rcases Int.lt_or_le x.e pos with h | h
   ·exact h
   ·exact absurd (.inr h) g
  have hodd := ok.odd.resolve_left gm
  have e : ∀ up, rD x pos up = dyOf x.neg (x.m / 2 ^ (pos - x.e).toNat + (if up = x.neg then 0 else 1)) pos := fun up => if_neg g
  refine ⟨?_, ?_, fun up => by rw [e]; exact low_of hp h0⟩
  all_goals
   rw [e, zv_of hp h0, zv_sign]
   have e1 : 2 ^ (pos - E).toNat = 2 ^ (pos - x.e).toNat * 2 ^ (x.e - E).toNat := by rw [← Nat.pow_add]; congr 1; omega
   obtain ⟨k, hk⟩ : ∃ k, (pos - x.e).toNat = k + 1 := ⟨(pos - x.e).toNat - 1, by omega⟩
   have hnd : x.m % 2 ^ (pos - x.e).toNat ≠ 0 := by
    rw [hk]
    intro h
    have h2 := Nat.mod_mod_of_dvd x.m (show 2 ∣ 2 ^ (k + 1) from ⟨2 ^ k, by rw [Nat.pow_succ, Nat.mul_comm]⟩)
    rw [h] at h2
    omega
   have hdm := Nat.div_add_mod x.m (2 ^ (pos - x.e).toNat)
   have hml := Nat.mod_lt x.m (Nat.two_pow_pos (pos - x.e).toNat)
   have hw : 0 < 2 ^ (x.e - E).toNat := Nat.two_pow_pos _
   rw [e1]
   generalize 2 ^ (pos - x.e).toNat = U at *
   generalize 2 ^ (x.e - E).toNat = W at *
   generalize x.m / U = q at *
   generalize x.m % U = r at *
   have hU : (0 : Int) < ((U * W : Nat) : Int) := by have := Nat.mul_pos (show 0 < U by omega) hw; omega
   have hxw : ((x.m * W : Nat) : Int) = (q : Int) * ((U * W : Nat) : Int) + ((r * W : Nat) : Int) := by
    rw [← hdm, Nat.add_mul, Int.natCast_add, ← Int.natCast_mul]
    congr 2
    ac_rfl
   have hr1 : r * W < U * W := (Nat.mul_lt_mul_right hw).2 hml
   have hr0 : 0 < r * W := Nat.mul_pos (by omega) hw
   rw [hxw]
   generalize r * W = R at *
   have hdiv : ((q : Int) * ((U * W : Nat) : Int) + (R : Int)) / ((U * W : Nat) : Int) = (q : Int) := by
    rw [Int.add_comm, Int.add_mul_ediv_right _ _ (Int.ne_of_gt hU), Int.ediv_eq_zero_of_lt (by omega) (by omega), Int.zero_add]
   have hdiv2 : (-((q : Int) * ((U * W : Nat) : Int) + (R : Int))) / ((U * W : Nat) : Int) = -(q : Int) - 1 := by
    have e2 : -((q : Int) * ((U * W : Nat) : Int) + (R : Int)) = (((U * W : Nat) : Int) - (R : Int)) + (-(q : Int) - 1) * ((U * W : Nat) : Int) := by
     rw [Int.sub_mul, Int.neg_mul, Int.one_mul]; omega
    rw [e2, Int.add_mul_ediv_right _ _ (Int.ne_of_gt hU), Int.ediv_eq_zero_of_lt (by omega) (by omega), Int.zero_add]
   rw [Int.natCast_mul (q + _)]
   generalize ((U * W : Nat) : Int) = V at *
   cases x.neg <;> simp [hdiv, hdiv2, Int.add_mul, Int.neg_mul, Int.sub_mul] <;> omega
theorem rD_lo {x : Dy} {pos : Int} (ok : x.Ok) : leD (rD x pos false) x := by
 have hl : Low (min (min x.e pos) 0) x := ⟨by omega, by omega⟩
 obtain ⟨h1, _, h3⟩ := rD_zv (pos := pos) ok hl (by omega)
 rw [leD_iff (h3 false).le hl.le, h1]
 exact Int.ediv_mul_le _ (by have := Nat.two_pow_pos (pos - min (min x.e pos) 0).toNat; omega)
theorem rD_hi {x : Dy} {pos : Int} (ok : x.Ok) : leD x (rD x pos true) := by
 have hl : Low (min (min x.e pos) 0) x := ⟨by omega, by omega⟩
 obtain ⟨_, h2, h3⟩ := rD_zv (pos := pos) ok hl (by omega)
 rw [leD_iff hl.le (h3 true).le, h2]
 have := Int.ediv_mul_le (-zv (min (min x.e pos) 0) x) (b := ((2 ^ (pos - min (min x.e pos) 0).toNat : Nat) : Int)) (by have := Nat.two_pow_pos (pos - min (min x.e pos) 0).toNat; omega)
 omega
theorem minD_le1 (x y : Dy) : leD (minD x y) x := by
 unfold minD
 split
 ·exact leD_refl x
 ·have := cmpD_flip x y
  unfold leD; omega
theorem minD_le2 (x y : Dy) : leD (minD x y) y := by
 unfold minD
 split
 ·assumption
 ·exact leD_refl y
theorem maxD_ge1 (x y : Dy) : leD x (maxD x y) := by
 unfold maxD
 split
 ·exact leD_refl x
 ·have := cmpD_flip x y
  unfold leD; omega
theorem maxD_ge2 (x y : Dy) : leD y (maxD x y) := by
 unfold maxD
 split
 ·have := cmpD_flip x y
  unfold leD; omega
 ·exact leD_refl y
theorem minD_glb {x y z : Dy} (h1 : leD z x) (h2 : leD z y) : leD z (minD x y) := by unfold minD; split <;> assumption

theorem pow_scale {a b p q E : Int} {A B : Nat} (hp : p - q = a - b) (ha : E ≤ a) (hb : E ≤ b) (hp0 : 0 ≤ p) (hq0 : 0 ≤ q) (hmin : p = 0 ∨ q = 0) :
  (A * 2 ^ p.toNat ≤ B * 2 ^ q.toNat ↔ A * 2 ^ (a - E).toNat ≤ B * 2 ^ (b - E).toNat) := by
 obtain ⟨k, h1, h2⟩ : ∃ k, (a - E).toNat = p.toNat + k ∧ (b - E).toNat = q.toNat + k := by
  rcases hmin with h | h
  ·exact ⟨(a - E).toNat, by omega, by omega⟩
  ·exact ⟨(b - E).toNat, by omega, by omega⟩
 rw [h1, h2, Nat.pow_add, Nat.pow_add, ← Nat.mul_assoc, ← Nat.mul_assoc]
 exact ⟨fun h => Nat.mul_le_mul_right _ h, fun h => Nat.le_of_mul_le_mul_right h (Nat.two_pow_pos k)⟩
theorem mul_le {x y : Dy} {neg : Bool} {n : Nat} {pos : Int} (hy : y.neg = false) (hn : x.m ≠ 0 → neg = x.neg) (h0 : x.m = 0 → n = 0 ∨ neg = false) {X Y : Nat}
  (hX : X = x.m * 2 ^ (x.e - y.e - pos).toNat) (hY : Y = y.m * 2 ^ (pos - (x.e - y.e)).toNat) :
  ((neg = false → n * Y ≤ X) → (neg = true → X ≤ n * Y) → leD (mulD (dyOf neg n pos) y) x) ∧ ((neg = false → X ≤ n * Y) → (neg = true → n * Y ≤ X) → leD x (mulD (dyOf neg n pos) y)) := by
 obtain ⟨E, hE⟩ : ∃ E, E = min (min pos (x.e - min y.e 0)) 0 := ⟨_, rfl⟩
 obtain ⟨F, hF⟩ : ∃ F, F = min y.e 0 := ⟨_, rfl⟩
 have ld : Low E (dyOf neg n pos) := low_of (by omega) (by omega)
 have ly : Low F y := ⟨by omega, by omega⟩
 obtain ⟨m1, m2⟩ := mul_zv ld ly
 have lx : E + F ≤ x.e := by omega
 have hs1 := pow_scale (A := n * y.m) (B := x.m) (p := if 0 ≤ pos - (x.e - y.e) then pos - (x.e - y.e) else 0) (q := if 0 ≤ x.e - y.e - pos then x.e - y.e - pos else 0) (a := pos + y.e) (b := x.e) (E := E + F) (by split <;> split <;> omega) (by omega) lx (by split <;> omega) (by split <;> omega) (by by_cases h : 0 ≤ x.e - y.e - pos <;> simp [h] <;> omega)
 have hs2 := pow_scale (A := x.m) (B := n * y.m) (p := if 0 ≤ x.e - y.e - pos then x.e - y.e - pos else 0) (q := if 0 ≤ pos - (x.e - y.e) then pos - (x.e - y.e) else 0) (a := x.e) (b := pos + y.e) (E := E + F) (by split <;> split <;> omega) lx (by omega) (by split <;> omega) (by split <;> omega) (by by_cases h : 0 ≤ x.e - y.e - pos <;> simp [h] <;> omega)
 have t1 : (if 0 ≤ pos - (x.e - y.e) then pos - (x.e - y.e) else 0).toNat = (pos - (x.e - y.e)).toNat := by split <;> omega
 have t2 : (if 0 ≤ x.e - y.e - pos then x.e - y.e - pos else 0).toNat = (x.e - y.e - pos).toNat := by split <;> omega
 rw [t1, t2, Nat.mul_assoc n y.m (2 ^ (pos - (x.e - y.e)).toNat), ← hX, ← hY] at hs1
 rw [t1, t2, Nat.mul_assoc n y.m (2 ^ (pos - (x.e - y.e)).toNat), ← hX, ← hY] at hs2
 have hprod : zv (E + F) (mulD (dyOf neg n pos) y) = (if neg = true then -1 else 1) * ((n * y.m * 2 ^ (pos + y.e - (E + F)).toNat : Nat) : Int) := by
  rw [m1, zv_of (by omega) (by omega), zv_sign, hy]
  have e1 : (pos + y.e - (E + F)).toNat = (pos - E).toNat + (y.e - F).toNat := by omega
  rw [e1, Nat.pow_add, show n * y.m * (2 ^ (pos - E).toNat * 2 ^ (y.e - F).toNat) = n * 2 ^ (pos - E).toNat * (y.m * 2 ^ (y.e - F).toNat) by ac_rfl, Int.natCast_mul (n * 2 ^ (pos - E).toNat)]
  simp [Int.mul_assoc]
 rw [leD_iff m2.le lx, leD_iff lx m2.le, hprod, zv_sign (d := x)]
 generalize n * y.m * 2 ^ (pos + y.e - (E + F)).toNat = D at *
 have hx0 : x.m = 0 → x.m * 2 ^ (x.e - (E + F)).toNat = 0 ∧ X = 0 := fun h => ⟨by rw [h, Nat.zero_mul], by rw [hX, h, Nat.zero_mul]⟩
 have hD0 : n = 0 → n * Y = 0 := fun h => by rw [h, Nat.zero_mul]
 generalize x.m * 2 ^ (x.e - (E + F)).toNat = XX at *
 generalize n * Y = NY at *
 by_cases gx : x.m = 0
 ·obtain ⟨q1, q2⟩ := hx0 gx
  have hh := h0 gx
  rw [q1] at hs1 hs2 ⊢
  cases neg
  ·constructor
   ·intro k1 _
    have := hs1.1 (k1 rfl)
    simp; omega
   ·intro _ _
    simp
  ·have hn0 : n = 0 := by rcases hh with h | h; exact h; cases h
   have hNY := hD0 hn0
   have := hs1.1 (by omega)
   constructor
   ·intro _ _; simp
   ·intro _ _; simp; omega
 ·have hne := hn gx
  subst hne
  cases hneg : x.neg
  ·constructor
   ·intro k1 _
    have := hs1.1 (k1 rfl)
    simp; omega
   ·intro k1 _
    have := hs2.1 (k1 rfl)
    simp; omega
  ·constructor
   ·intro _ k1
    have := hs2.1 (k1 rfl)
    simp; omega
   ·intro _ k1
    have := hs1.1 (k1 rfl)
    simp; omega
theorem sq_le {x : Dy} {n : Nat} {pos : Int} (hx : x.neg = false) {X Y : Nat} (hX : X = x.m * 2 ^ (x.e - 2 * pos + 2).toNat) (hY : Y = 2 ^ (-(x.e - 2 * pos + 2)).toNat) :
  (4 * (n * n) * Y ≤ X → leD (mulD (dyOf false n pos) (dyOf false n pos)) x) ∧ (X ≤ 4 * (n * n) * Y → leD x (mulD (dyOf false n pos) (dyOf false n pos))) := by
 obtain ⟨E, hE⟩ : ∃ E, E = min (min (pos - 1) x.e) 0 - 1 := ⟨_, rfl⟩
 have ld : Low E (dyOf false n pos) := low_of (by omega) (by omega)
 obtain ⟨m1, m2⟩ := mul_zv ld ld
 have lx : E + E ≤ x.e := by omega
 have hs1 := pow_scale (A := 4 * (n * n)) (B := x.m) (p := if 0 ≤ -(x.e - 2 * pos + 2) then -(x.e - 2 * pos + 2) else 0) (q := if 0 ≤ x.e - 2 * pos + 2 then x.e - 2 * pos + 2 else 0) (a := 2 * pos - 2) (b := x.e) (E := E + E) (by split <;> split <;> omega) (by omega) lx (by split <;> omega) (by split <;> omega) (by by_cases h : 0 ≤ x.e - 2 * pos + 2 <;> simp [h] <;> omega)
 have hs2 := pow_scale (A := x.m) (B := 4 * (n * n)) (p := if 0 ≤ x.e - 2 * pos + 2 then x.e - 2 * pos + 2 else 0) (q := if 0 ≤ -(x.e - 2 * pos + 2) then -(x.e - 2 * pos + 2) else 0) (a := x.e) (b := 2 * pos - 2) (E := E + E) (by split <;> split <;> omega) lx (by omega) (by split <;> omega) (by split <;> omega) (by by_cases h : 0 ≤ x.e - 2 * pos + 2 <;> simp [h] <;> omega)
 have t1 : (if 0 ≤ -(x.e - 2 * pos + 2) then -(x.e - 2 * pos + 2) else 0).toNat = (-(x.e - 2 * pos + 2)).toNat := by split <;> omega
 have t2 : (if 0 ≤ x.e - 2 * pos + 2 then x.e - 2 * pos + 2 else 0).toNat = (x.e - 2 * pos + 2).toNat := by split <;> omega
 rw [t1, t2, ← hX, ← hY] at hs1
 rw [t1, t2, ← hX, ← hY] at hs2
 have hprod : zv (E + E) (mulD (dyOf false n pos) (dyOf false n pos)) = ((4 * (n * n) * 2 ^ (2 * pos - 2 - (E + E)).toNat : Nat) : Int) := by
  rw [m1, zv_of (by omega) (by omega)]
  obtain ⟨k, hk⟩ : ∃ k, (pos - E).toNat = k + 1 := ⟨(pos - E).toNat - 1, by omega⟩
  have e1 : (2 * pos - 2 - (E + E)).toNat = k + k := by omega
  rw [e1, hk, show 2 ^ (k + 1) = 2 ^ k * 2 from Nat.pow_succ 2 k, show 2 ^ (k + k) = 2 ^ k * 2 ^ k from Nat.pow_add 2 k k]
  have e2 : 4 * (n * n) * (2 ^ k * 2 ^ k) = n * (2 ^ k * 2) * (n * (2 ^ k * 2)) := by
   generalize 2 ^ k = K
   grind
  rw [e2, Int.natCast_mul (n * (2 ^ k * 2))]
  simp
 rw [leD_iff m2.le lx, leD_iff lx m2.le, hprod, zv_sign (d := x), hx]
 generalize 4 * (n * n) * 2 ^ (2 * pos - 2 - (E + E)).toNat = D at *
 constructor
 ·intro h
  have h9 := hs1.1 h
  generalize x.m * 2 ^ (x.e - (E + E)).toNat = XX at *
  simp; omega
 ·intro h
  have h9 := hs2.1 h
  generalize x.m * 2 ^ (x.e - (E + E)).toNat = XX at *
  simp; omega
theorem nn_iff {x : Dy} : leD dy0 x ↔ 0 ≤ x.sg := by
 have h := leD_iff (x := dy0) (y := x) (E := min x.e 0) (show min x.e 0 ≤ 0 by omega) (by omega)
 rw [h, zv_dy0]
 unfold zv
 rcases sg_cases x with ⟨h1, h2⟩ | ⟨h1, h3, h2⟩ | ⟨h1, h3, h2⟩ <;> rw [h2]
 ·simp
 ·have := Nat.mul_pos (Nat.pos_of_ne_zero h1) (Nat.two_pow_pos (x.e - min x.e 0).toNat)
  constructor <;> intro h <;> omega
 ·constructor <;> intro h <;> omega
theorem sq_anti {x y : Dy} (hx : leD dy0 x) (hy : leD dy0 y) (h : leD (mulD x x) (mulD y y)) : leD x y := by
 obtain ⟨E, hE⟩ : ∃ E, E = min (min x.e y.e) 0 := ⟨_, rfl⟩
 have lx : Low E x := ⟨by omega, by omega⟩
 have ly : Low E y := ⟨by omega, by omega⟩
 obtain ⟨p1, p2⟩ := mul_zv lx lx
 obtain ⟨q1, q2⟩ := mul_zv ly ly
 rw [leD_iff p2.le q2.le, p1, q1] at h
 rw [leD_iff (low_dy0 lx.le0).le lx.le, zv_dy0] at hx
 rw [leD_iff (low_dy0 lx.le0).le ly.le, zv_dy0] at hy
 rw [leD_iff lx.le ly.le]
 rcases Int.lt_or_le (zv E y) (zv E x) with g | g
 ·exfalso
  have h1 : zv E y * zv E y < zv E x * zv E x := by
   have a1 := Int.mul_le_mul_of_nonneg_left (Int.le_of_lt g) hy
   have a2 := Int.mul_lt_mul_of_pos_right g (show 0 < zv E x by omega)
   omega
  omega
 ·exact g

theorem low_min (x y : Dy) : Low (min (min x.e y.e) 0) x ∧ Low (min (min x.e y.e) 0) y := ⟨⟨by omega, by omega⟩, ⟨by omega, by omega⟩⟩
theorem sq_nn (x : Dy) : leD dy0 (mulD x x) := by
 obtain ⟨l, _⟩ := low_min x x
 obtain ⟨h1, h2⟩ := mul_zv l l
 rw [leD_iff (low_dy0 h2.le0).le h2.le, zv_dy0, h1]
 rcases Int.le_total 0 (zv (min (min x.e x.e) 0) x) with h | h
 ·exact Int.mul_nonneg h h
 ·exact Int.mul_nonneg_of_nonpos_of_nonpos h h
theorem np_iff {x : Dy} : leD x dy0 ↔ x.sg ≤ 0 := by
 have h := leD_iff (x := x) (y := dy0) (E := min x.e 0) (by omega) (show min x.e 0 ≤ 0 by omega)
 rw [h, zv_dy0]
 unfold zv
 rcases sg_cases x with ⟨h1, h2⟩ | ⟨h1, h3, h2⟩ | ⟨h1, h3, h2⟩ <;> rw [h2]
 ·simp
 ·constructor <;> intro h <;> omega
 ·have := Nat.mul_pos (Nat.pos_of_ne_zero h1) (Nat.two_pow_pos (x.e - min x.e 0).toNat)
  constructor <;> intro h <;> omega
theorem not_le {x y : Dy} : ¬ leD x y ↔ cmpD y x < 0 := by
 have := cmpD_flip x y
 unfold leD
 omega

theorem mn_le {e1 e2 e3 e4 : Dy} : leD (mnN e1 e2 e3 e4 3) e1 ∧ leD (mnN e1 e2 e3 e4 3) e2 ∧ leD (mnN e1 e2 e3 e4 3) e3 ∧ leD (mnN e1 e2 e3 e4 3) e4 := by
 have e : mnN e1 e2 e3 e4 3 = minD (minD (minD e1 e2) e3) e4 := rfl
 rw [e]
 have h3 := minD_le1 (minD (minD e1 e2) e3) e4
 have h2 := leD_trans h3 (minD_le1 (minD e1 e2) e3)
 exact ⟨leD_trans h2 (minD_le1 _ _), leD_trans h2 (minD_le2 _ _), leD_trans h3 (minD_le2 _ _), minD_le2 _ _⟩
theorem mx_ge {e1 e2 e3 e4 : Dy} : leD e1 (mxN e1 e2 e3 e4 3) ∧ leD e2 (mxN e1 e2 e3 e4 3) ∧ leD e3 (mxN e1 e2 e3 e4 3) ∧ leD e4 (mxN e1 e2 e3 e4 3) := by
 have e : mxN e1 e2 e3 e4 3 = maxD (maxD (maxD e1 e2) e3) e4 := rfl
 rw [e]
 have h3 := maxD_ge1 (maxD (maxD e1 e2) e3) e4
 have h2 := leD_trans (maxD_ge1 (maxD e1 e2) e3) h3
 exact ⟨leD_trans (maxD_ge1 _ _) h2, leD_trans (maxD_ge2 _ _) h2, leD_trans (maxD_ge2 _ _) h3, maxD_ge2 _ _⟩

theorem sq_mono' {x y : Dy} (hx : leD dy0 x) (h : leD x y) : leD (mulD x x) (mulD y y) := by
 obtain ⟨lx, ly⟩ := low_min x y
 obtain ⟨p1, p2⟩ := mul_zv lx lx
 obtain ⟨q1, q2⟩ := mul_zv ly ly
 rw [leD_iff (low_dy0 lx.le0).le lx.le, zv_dy0] at hx
 rw [leD_iff lx.le ly.le] at h
 rw [leD_iff p2.le q2.le, p1, q1]
 exact Int.mul_le_mul h h hx (by omega)
theorem abs_nn (x : Dy) : leD dy0 (dyOf false x.m x.e) := by
 rw [nn_iff]
 unfold Dy.sg
 split
 ·exact Int.le_refl _
 ·have e : (dyOf false x.m x.e).neg = false := by unfold dyOf; split <;> rfl
  rw [e]; decide
theorem abs_sq (x : Dy) : leD (mulD (dyOf false x.m x.e) (dyOf false x.m x.e)) (mulD x x) ∧ leD (mulD x x) (mulD (dyOf false x.m x.e) (dyOf false x.m x.e)) := by
 obtain ⟨lx, _⟩ := low_min x x
 have l2 : Low (min (min x.e x.e) 0) (dyOf false x.m x.e) := low_of lx.le lx.le0
 obtain ⟨p1, p2⟩ := mul_zv lx lx
 obtain ⟨q1, q2⟩ := mul_zv l2 l2
 rw [leD_iff q2.le p2.le, leD_iff p2.le q2.le, p1, q1, zv_of lx.le lx.le0, zv_sign]
 generalize ((x.m * 2 ^ (x.e - min (min x.e x.e) 0).toNat : Nat) : Int) = X
 have e9 : -X * -X = X * X := Int.neg_mul_neg X X
 cases x.neg <;> simp [e9]
theorem add_mono {x y x' y' : Dy} (h1 : leD x x') (h2 : leD y y') : leD (addD x y) (addD x' y') := by
 obtain ⟨E, hE⟩ : ∃ E, E = min (min (min x.e y.e) (min x'.e y'.e)) 0 := ⟨_, rfl⟩
 have l1 : Low E x := ⟨by omega, by omega⟩
 have l2 : Low E y := ⟨by omega, by omega⟩
 have l3 : Low E x' := ⟨by omega, by omega⟩
 have l4 : Low E y' := ⟨by omega, by omega⟩
 obtain ⟨p1, p2⟩ := add_zv l1 l2
 obtain ⟨q1, q2⟩ := add_zv l3 l4
 rw [leD_iff p2.le q2.le, p1, q1]
 rw [leD_iff l1.le l3.le] at h1
 rw [leD_iff l2.le l4.le] at h2
 omega
theorem neg_anti {x y : Dy} (h : leD x y) : leD (negD y) (negD x) := by
 obtain ⟨l1, l2⟩ := low_min x y
 rw [leD_iff (neg_zv l2).le (neg_zv l1).le, negD_zv, negD_zv]
 rw [leD_iff l1.le l2.le] at h
 omega


theorem corner_lo {a b p q x y : Int} (h1 : a ≤ x) (h2 : x ≤ b) (h3 : p ≤ y) (h4 : y ≤ q) : a * p ≤ x * y ∨ a * q ≤ x * y ∨ b * p ≤ x * y ∨ b * q ≤ x * y := by
 rcases Int.le_total 0 y with hy | hy
 ·have k := Int.mul_le_mul_of_nonneg_right h1 hy
  rcases Int.le_total 0 a with ha | ha
  ·have := Int.mul_le_mul_of_nonneg_left h3 ha; omega
  ·have := Int.mul_le_mul_of_nonpos_left ha h4; omega
 ·have k := Int.mul_le_mul_of_nonpos_right h2 hy
  rcases Int.le_total 0 b with hb | hb
  ·have := Int.mul_le_mul_of_nonneg_left h3 hb; omega
  ·have := Int.mul_le_mul_of_nonpos_left hb h4; omega
theorem corner_hi {a b p q x y : Int} (h1 : a ≤ x) (h2 : x ≤ b) (h3 : p ≤ y) (h4 : y ≤ q) : x * y ≤ a * p ∨ x * y ≤ a * q ∨ x * y ≤ b * p ∨ x * y ≤ b * q := by
 rcases Int.le_total 0 y with hy | hy
 ·have k := Int.mul_le_mul_of_nonneg_right h2 hy
  rcases Int.le_total 0 b with hb | hb
  ·have := Int.mul_le_mul_of_nonneg_left h4 hb; omega
  ·have := Int.mul_le_mul_of_nonpos_left hb h3; omega
 ·have k := Int.mul_le_mul_of_nonpos_right h1 hy
  rcases Int.le_total 0 a with ha | ha
  ·have := Int.mul_le_mul_of_nonneg_left h4 ha; omega
  ·have := Int.mul_le_mul_of_nonpos_left ha h3; omega
theorem mul_in {a b p q x y : Dy} (h1 : leD a x) (h2 : leD x b) (h3 : leD p y) (h4 : leD y q) : leD (mnP a b p q) (mulD x y) ∧ leD (mulD x y) (mxP a b p q) := by
 obtain ⟨E, hE⟩ : ∃ E, E = min (min (min a.e b.e) (min p.e q.e)) (min (min x.e y.e) 0) := ⟨_, rfl⟩
 have la : Low E a := ⟨by omega, by omega⟩
 have lb : Low E b := ⟨by omega, by omega⟩
 have lp : Low E p := ⟨by omega, by omega⟩
 have lq : Low E q := ⟨by omega, by omega⟩
 have lx : Low E x := ⟨by omega, by omega⟩
 have ly : Low E y := ⟨by omega, by omega⟩
 obtain ⟨m1, m2⟩ := mul_zv lx ly
 obtain ⟨a1, a2⟩ := mul_zv la lp
 obtain ⟨b1, b2⟩ := mul_zv la lq
 obtain ⟨c1, c2⟩ := mul_zv lb lp
 obtain ⟨d1, d2⟩ := mul_zv lb lq
 obtain ⟨n1, n2, n3, n4⟩ := mn_le (e1 := mulD a p) (e2 := mulD a q) (e3 := mulD b p) (e4 := mulD b q)
 obtain ⟨w1, w2, w3, w4⟩ := mx_ge (e1 := mulD a p) (e2 := mulD a q) (e3 := mulD b p) (e4 := mulD b q)
 rw [leD_iff la.le lx.le] at h1
 rw [leD_iff lx.le lb.le] at h2
 rw [leD_iff lp.le ly.le] at h3
 rw [leD_iff ly.le lq.le] at h4
 constructor
 ·rcases corner_lo h1 h2 h3 h4 with h | h | h | h
  ·exact leD_trans n1 ((leD_iff a2.le m2.le).2 (by rw [a1, m1]; exact h))
  ·exact leD_trans n2 ((leD_iff b2.le m2.le).2 (by rw [b1, m1]; exact h))
  ·exact leD_trans n3 ((leD_iff c2.le m2.le).2 (by rw [c1, m1]; exact h))
  ·exact leD_trans n4 ((leD_iff d2.le m2.le).2 (by rw [d1, m1]; exact h))
 ·rcases corner_hi h1 h2 h3 h4 with h | h | h | h
  ·exact leD_trans ((leD_iff m2.le a2.le).2 (by rw [a1, m1]; exact h)) w1
  ·exact leD_trans ((leD_iff m2.le b2.le).2 (by rw [b1, m1]; exact h)) w2
  ·exact leD_trans ((leD_iff m2.le c2.le).2 (by rw [c1, m1]; exact h)) w3
  ·exact leD_trans ((leD_iff m2.le d2.le).2 (by rw [d1, m1]; exact h)) w4
theorem neg_sq (x : Dy) : leD (mulD x x) (mulD (negD x) (negD x)) ∧ leD (mulD (negD x) (negD x)) (mulD x x) := by
 obtain ⟨lx, _⟩ := low_min x x
 have l2 := neg_zv lx
 obtain ⟨p1, p2⟩ := mul_zv lx lx
 obtain ⟨q1, q2⟩ := mul_zv l2 l2
 rw [leD_iff q2.le p2.le, leD_iff p2.le q2.le, p1, q1, negD_zv, Int.neg_mul_neg]
 exact ⟨Int.le_refl _, Int.le_refl _⟩
theorem neg_le0 {x : Dy} (h : leD x dy0) : leD dy0 (negD x) := by
 have := neg_anti h
 rwa [show negD dy0 = dy0 from rfl] at this
theorem sq_up {x y : Dy} (h : (leD dy0 x ∧ leD x y) ∨ (leD x dy0 ∧ leD y x)) : leD (mulD x x) (mulD y y) := by
 rcases h with ⟨h1, h2⟩ | ⟨h1, h2⟩
 ·exact sq_mono' h1 h2
 ·exact leD_trans (neg_sq x).1 (leD_trans (sq_mono' (neg_le0 h1) (neg_anti h2)) (neg_sq y).2)
theorem sqH_ge (a b : Dy) : leD (mulD a a) (sqH a b) ∧ leD (mulD b b) (sqH a b) := by
 unfold sqH
 have fl := cmpD_flip (dyOf false a.m a.e) (dyOf false b.m b.e)
 split
 ·rename_i g
  have h : leD (dyOf false b.m b.e) (dyOf false a.m a.e) := by unfold leD; omega
  exact ⟨leD_refl _, leD_trans (abs_sq b).2 (leD_trans (sq_mono' (abs_nn b) h) (abs_sq a).1)⟩
 ·rename_i g
  have h : leD (dyOf false a.m a.e) (dyOf false b.m b.e) := by unfold leD; omega
  exact ⟨leD_trans (abs_sq a).2 (leD_trans (sq_mono' (abs_nn a) h) (abs_sq b).1), leD_refl _⟩
theorem sqL_le (a b : Dy) (hn : nzB a b = false) : leD (sqL a b) (mulD a a) ∧ leD (sqL a b) (mulD b b) := by
 unfold sqL
 rw [hn]
 have fl := cmpD_flip (dyOf false a.m a.e) (dyOf false b.m b.e)
 simp only [Bool.false_eq_true, if_false]
 split
 ·rename_i g
  have h : leD (dyOf false b.m b.e) (dyOf false a.m a.e) := by unfold leD; omega
  exact ⟨leD_trans (abs_sq b).2 (leD_trans (sq_mono' (abs_nn b) h) (abs_sq a).1), leD_refl _⟩
 ·rename_i g
  have h : leD (dyOf false a.m a.e) (dyOf false b.m b.e) := by unfold leD; omega
  exact ⟨leD_refl _, leD_trans (abs_sq a).2 (leD_trans (sq_mono' (abs_nn a) h) (abs_sq b).1)⟩
theorem sq_in {a b x : Dy} (h1 : leD a x) (h2 : leD x b) : leD (sqL a b) (mulD x x) ∧ leD (mulD x x) (sqH a b) := by
 constructor
 ·cases hn : nzB a b
  ·obtain ⟨k1, k2⟩ := sqL_le a b hn
   unfold nzB at hn
   have hs : 0 < a.sg ∨ b.sg < 0 := by
    rcases Int.lt_or_le 0 a.sg with g | g
    ·exact .inl g
    ·rcases Int.lt_or_le b.sg 0 with w | w
     ·exact .inr w
     ·rw [decide_eq_true g, decide_eq_true w] at hn; cases hn
   rcases hs with g | g
   ·exact leD_trans k1 (sq_up (.inl ⟨nn_iff.2 (by omega), h1⟩))
   ·exact leD_trans k2 (sq_up (.inr ⟨np_iff.2 (by omega), h2⟩))
  ·have e : sqL a b = dy0 := by unfold sqL; rw [if_pos hn]
   rw [e]; exact sq_nn _
 ·rcases leD_total dy0 x with g | g
  ·exact leD_trans (sq_up (.inl ⟨g, h2⟩)) (sqH_ge a b).2
  ·exact leD_trans (sq_up (.inr ⟨g, h1⟩)) (sqH_ge a b).1
theorem some_in {lo hi : Dy} {k : Nat} (h : leD lo hi) (hk : k ≤ 16) : leD lo (addD lo (mulD (addD hi (negD lo)) (dyOf false k (-4)))) ∧ leD (addD lo (mulD (addD hi (negD lo)) (dyOf false k (-4)))) hi := by
 obtain ⟨l1, l2⟩ := low_min lo hi
 obtain ⟨w1, w2⟩ := add_zv l2 (neg_zv l1)
 rw [leD_iff l1.le l2.le] at h
 generalize min (min lo.e hi.e) 0 = E at *
 have lk : Low (-4) (dyOf false k (-4)) := low_of (by decide) (by decide)
 have vk : zv (-4) (dyOf false k (-4)) = (k : Int) := by rw [zv_of (by decide) (by decide)]; simp
 obtain ⟨m1, m2⟩ := mul_zv w2 lk
 have e0 := l1.le0
 have l1' : Low (E + -4) lo := ⟨by have := l1.le; omega, by omega⟩
 have l2' : Low (E + -4) hi := ⟨by have := l2.le; omega, by omega⟩
 obtain ⟨s1, s2⟩ := add_zv l1' m2
 have d1 := zv_low (d := lo) (E := E) (E' := E + -4) l1.le (by omega)
 have d2 := zv_low (d := hi) (E := E) (E' := E + -4) l2.le (by omega)
 have e16 : ((2 ^ (E - (E + -4)).toNat : Nat) : Int) = 16 := by rw [show (E - (E + -4)).toNat = 4 by omega]; rfl
 rw [e16] at d1 d2
 rw [negD_zv] at w1
 rw [leD_iff l1'.le s2.le, leD_iff s2.le l2'.le, s1, m1, vk, w1, d1, d2]
 have hw : 0 ≤ (zv E hi + -zv E lo) * (k : Int) := Int.mul_nonneg (by omega) (by omega)
 have hw2 : (zv E hi + -zv E lo) * (k : Int) ≤ (zv E hi + -zv E lo) * 16 := Int.mul_le_mul_of_nonneg_left (by omega) (by omega)
 omega
def cubD (x : Dy) : Dy := dyOf x.neg (x.m ^ 3) (x.e * 3)
theorem cub_zv {E : Int} {x : Dy} (h : Low E x) : zv (E * 3) (cubD x) = zv E x * zv E x * zv E x ∧ Low (E * 3) (cubD x) := by
 have h1 := h.le
 have h0 := h.le0
 refine ⟨?_, low_of (by omega) (by omega)⟩
 unfold cubD
 rw [zv_of (by omega) (by omega), zv_sign]
 have e1 : (x.e * 3 - E * 3).toNat = (x.e - E).toNat * 3 := by omega
 rw [e1, Nat.pow_mul, ← Nat.mul_pow]
 generalize x.m * 2 ^ (x.e - E).toNat = X
 have e2 : ((X ^ 3 : Nat) : Int) = (X : Int) * (X : Int) * (X : Int) := by
  rw [Nat.pow_succ, Nat.pow_succ, Nat.pow_one, Int.natCast_mul, Int.natCast_mul]
 rw [e2]
 generalize (X : Int) = Y
 cases x.neg <;> simp <;> grind
theorem cube_le {x y : Int} (h : x ≤ y) : x * x * x ≤ y * y * y := by
 rcases Int.le_total 0 x with hx | hx
 ·have h1 := Int.mul_le_mul h h hx (by omega)
  exact Int.mul_le_mul h1 h hx (Int.mul_nonneg (by omega) (by omega))
 ·rcases Int.le_total 0 y with hy | hy
  ·have h1 : x * x * x ≤ 0 := Int.mul_nonpos_of_nonneg_of_nonpos (Int.mul_nonneg_of_nonpos_of_nonpos hx hx) hx
   have h2 : 0 ≤ y * y * y := Int.mul_nonneg (Int.mul_nonneg hy hy) hy
   omega
  ·have h1 := Int.mul_le_mul (show -y ≤ -x by omega) (show -y ≤ -x by omega) (show 0 ≤ -y by omega) (show 0 ≤ -x by omega)
   have h2 := Int.mul_le_mul h1 (show -y ≤ -x by omega) (show 0 ≤ -y by omega) (Int.mul_nonneg (show 0 ≤ -x by omega) (show 0 ≤ -x by omega))
   rw [Int.neg_mul_neg, Int.neg_mul_neg, Int.mul_neg, Int.mul_neg] at h2
   omega
theorem cub_mono {x y : Dy} (h : leD x y) : leD (cubD x) (cubD y) := by
 obtain ⟨lx, ly⟩ := low_min x y
 obtain ⟨p1, p2⟩ := cub_zv lx
 obtain ⟨q1, q2⟩ := cub_zv ly
 rw [leD_iff lx.le ly.le] at h
 rw [leD_iff p2.le q2.le, p1, q1]
 exact cube_le h
theorem cub_mul (x : Dy) : leD (cubD x) (mulD (mulD x x) x) ∧ leD (mulD (mulD x x) x) (cubD x) := by
 obtain ⟨lx, _⟩ := low_min x x
 obtain ⟨p1, p2⟩ := cub_zv lx
 obtain ⟨q1, q2⟩ := mul_zv lx lx
 obtain ⟨r1, r2⟩ := mul_zv q2 lx
 generalize min (min x.e x.e) 0 = E at *
 have e : E * 3 = E + E + E := by omega
 rw [e] at p1 p2
 rw [leD_iff p2.le r2.le, leD_iff r2.le p2.le, p1, r1, q1]
 exact ⟨Int.le_refl _, Int.le_refl _⟩
theorem abs_in {a b x lo hi : Dy} (h1 : leD a x) (h2 : leD x b) (h0 : leD dy0 lo) (h3 : leD lo hi) (q1 : mulD lo lo = sqL a b) (q2 : mulD hi hi = sqH a b) : leD lo (dyOf false x.m x.e) ∧ leD (dyOf false x.m x.e) hi := by
 obtain ⟨k1, k2⟩ := sq_in h1 h2
 have n := abs_nn x
 obtain ⟨w1, w2⟩ := abs_sq x
 exact ⟨sq_anti h0 n (by rw [q1]; exact leD_trans k1 w2), sq_anti n (leD_trans h0 h3) (by rw [q2]; exact leD_trans w1 k2)⟩

theorem wpr_app {P : Program} {dr : Bool} {c0 : Nat} {a b : List VO} {S : VS} {K : VS → Prop} (h : wps P dr c0 a S (fun S => wpr P dr c0 b S K)) : wpr P dr c0 (a ++ b) S K := by
 induction a generalizing S with
 | nil => exact h
 | cons o r ih =>
  obtain ⟨d, op, g⟩ := o
  cases g with
  | none =>
   obtain ⟨v, σ', c', kt, h, hk⟩ := opS_eff h
   exact wpr_eff ⟨v, σ', c', kt, h, ih hk⟩
  | some g =>
   obtain ⟨t, b⟩ := g
   rcases h with ⟨hg, h⟩ | ⟨b', hg, h⟩
   ·exact wpr_guard (.inl ⟨hg, ih h⟩)
   refine wpr_guard (.inr ⟨b', hg, fun e => ?_, fun e => ?_⟩)
   ·rw [if_pos e] at h
    obtain ⟨v, σ', c', kt, h, hk⟩ := opS_eff h
    exact ⟨v, σ', c', kt, h, ih hk⟩
   ·rw [if_neg e] at h
    exact ih h
structure Rn (b : Nat) (E : Int) (d : Dy) : Prop where
 ok : d.Ok
 bits : bl d.m ≤ b
 lo : -E ≤ d.e
 hi : d.e ≤ E
theorem Num.rn {d : Dy} (h : Num d) : Rn 67108864 2199023255552 d := ⟨h.ok, h.bits, h.lo, h.hi⟩
theorem Rn.mono {b b' : Nat} {E E' : Int} {d : Dy} (h : Rn b E d) (hb : b ≤ b') (hE : E ≤ E') : Rn b' E' d := ⟨h.ok, Nat.le_trans h.bits hb, by have := h.lo; omega, by have := h.hi; omega⟩
theorem Rn.r {b : Nat} {E : Int} {d : Dy} (h : Rn b E d) (hb : b ≤ 68719476736) (hE : E ≤ 2305843009213693952) : RNum d := ⟨h.ok, Nat.le_trans h.bits hb, by have := h.lo; omega, by have := h.hi; omega⟩
theorem Rn.neg {b : Nat} {E : Int} {d : Dy} (h : Rn b E d) : Rn b E (negD d) := by
 refine ⟨negD_ok h.ok, ?_, ?_, ?_⟩
 all_goals
  have h1 := h.bits
  have h2 := h.lo
  have h3 := h.hi
  unfold negD
  split
 ·rename_i g; rw [g] at h1; exact h1
 ·exact h1
 ·show -E ≤ 0; omega
 ·exact h2
 ·show (0 : Int) ≤ E; omega
 ·exact h3
theorem Rn.mul {b b' : Nat} {E E' : Int} {x y : Dy} (hx : Rn b E x) (hy : Rn b' E' y) : Rn (b + b') (E + E') (mulD x y) := by
 have h1 := hx.lo
 have h2 := hx.hi
 have h3 := hy.lo
 have h4 := hy.hi
 have hb := bl_mul_le x.m y.m
 have h5 := hx.bits
 have h6 := hy.bits
 have ho := mul_oddD hx.ok hy.ok
 refine ⟨mulD_ok x y, Nat.le_trans (dyOf_bl (e := x.e + y.e) (neg := x.neg != y.neg)) (by omega), ?_, ?_⟩
 ·unfold mulD
  rw [dyOf_e]
  split
  ·omega
  ·rename_i g; rw [tz_odd (ho.resolve_left g)]; omega
 ·unfold mulD
  rw [dyOf_e]
  split
  ·omega
  ·rename_i g; rw [tz_odd (ho.resolve_left g)]; omega
theorem add_ex {b : Nat} {E : Int} {x y : Dy} (hx : Rn b E x) (hy : Rn b E y) : -(E + b + 1) ≤ (addD x y).e ∧ (addD x y).e ≤ E + b + 1 := by
 have key : ∀ {x y : Dy}, Rn b E x → Rn b E y → y.e ≤ x.e → -(E + b + 1) ≤ (addD x y).e ∧ (addD x y).e ≤ E + b + 1 := fun {x y} hx hy h => by
  have h1 := hx.lo
  have h2 := hx.hi
  have h3 := hy.lo
  have h4 := hy.hi
  by_cases gy : y.m = 0
  ·rw [addD_comm0 hx.ok gy hy.ok]; omega
  rw [addD_sumW h, dyOf_e]
  split
  ·omega
  ·rename_i g0
   have ht : tz (sumW x y).2 ≤ b + 1 := by
    by_cases g : y.e < x.e
    ·rw [tz_odd (sumW_odd g (hy.ok.odd.resolve_left gy))]; omega
    ·refine Nat.le_trans (tz_le_bl _) (sum_bl h ?_ hy.bits)
     rw [show (x.e - y.e).toNat = 0 by omega, Nat.pow_zero, Nat.mul_one]
     exact hx.bits
   omega
 rcases Int.le_total y.e x.e with h | h
 ·exact key hx hy h
 ·rw [addD_comm]; exact key hy hx h
theorem Rn.add {b B : Nat} {E : Int} {x y : Dy} (hx : Rn b E x) (hy : Rn b E y) (h : bl (addD x y).m ≤ B) : Rn B (E + b + 1) (addD x y) := ⟨addD_ok _ _, h, (add_ex hx hy).1, (add_ex hx hy).2⟩
theorem rmulW_spec (t u : Tok) (x y : Dy) (c : Nat) (hx : RNum x) (hy : RNum y) (bx : bl x.m ≤ 8589934592) (by0 : bl y.m ≤ 8589934592) :
  VSpec Tryz.prog F.r08Mul c [fV t x, fV u y] (fun r _ => ∃ tk, r = fV tk (mulD x y)) := by
 refine sG hm G.r08Mul ?_
 unfold C.r08Mul R.r08Mul cD
 have h1 := hx.lo
 have h2 := hx.hi
 have h3 := hy.lo
 have h4 := hy.hi
 have hb := bl_mul_le x.m y.m
 refine zR ?_
 refine s_call (mul06_spec t u x.neg y.neg x.m y.m (c + 3) (by omega) (by omega)) wS ?_
 rintro v c1 hc1 ⟨tk, rfl⟩
 refine zR ?_
 refine s_call (of08_spec (zneg (x.neg != y.neg) (x.m * y.m)) tk (x.m * y.m) (x.e + y.e) c1 (by omega) (fun h => by unfold zneg; rw [h]; simp) (by omega) (by omega)) wS ?_
 rw [dyOf_zneg]
 rintro v c2 hc2 ⟨tq, rfl⟩
 refine zR ?_
 exact ⟨tq, rfl⟩
theorem int06K (k c : Nat) (hk : k ≤ 1000) : VSpec Tryz.prog F.r06Int c [iv (k : Int)] (fun r _ => ∃ tk, r = zV tk false k) := by
 refine sG hm G.r06Int ?_
 unfold C.r06Int R.r06Int cD
 have g : ¬ (k : Int) < 0 := by omega
 have hb : bl k ≤ 68719476736 := Nat.le_trans (bl_le (k := 10) (by have : (2 : Nat) ^ 10 = 1024 := rfl; omega)) (by decide)
 refine zRF g ?_
 refine s_call (intR k (c + 1) (by omega)) wS ?_
 rintro v c1 hc1 ⟨i, rfl, _, _⟩
 refine zR ?_
 refine s_call (make1_spec false (.id i) k c1 hb) wS ?_
 rintro v c2 hc2 rfl
 refine zR ?_
 exact ⟨_, rfl⟩
theorem int08K (k : Nat) (e : Int) (c : Nat) (hk : k ≤ 1000) (he : fitE e) : VSpec Tryz.prog F.r08Int c [iv (k : Int), iv e] (fun r _ => ∃ tk, r = fV tk (dyOf false k e)) := by
 refine sG hm G.r08Int ?_
 unfold C.r08Int R.r08Int cD
 unfold fitE at he
 have hb : bl k ≤ 68719476736 := Nat.le_trans (bl_le (k := 10) (by have : (2 : Nat) ^ 10 = 1024 := rfl; omega)) (by decide)
 refine zR ?_
 refine s_call (int06K k (c + 1) hk) wS ?_
 rintro v c1 hc1 ⟨t1, rfl⟩
 refine zR ?_
 refine s_call (of08_spec false t1 k e c1 hb (fun _ => rfl) (by omega) (by omega)) wS ?_
 rintro v c2 hc2 ⟨t2, rfl⟩
 refine zR ?_
 exact ⟨_, rfl⟩
theorem k16_rn {k : Nat} (hk : k ≤ 16) : Rn 5 32 (dyOf false k (-4)) := by
 have hb : bl k ≤ 5 := bl_le (by have : (2 : Nat) ^ 5 = 32 := rfl; omega)
 refine ⟨dyOf_ok _ _ _, Nat.le_trans dyOf_bl hb, ?_, ?_⟩
 all_goals
  rw [dyOf_e]
  have := tz_le_bl k
  split <;> omega
def SomeA (lo hi : Dy) (r : V) : Prop := (∃ tk x, r = .tup [fV tk x, bv true] ∧ leD lo x ∧ leD x hi ∧ Rn 402653184 4398046511104 x) ∨ ∃ tk, r = .tup [fV tk dy0, bv false]
theorem some10_spec (t u : Tok) (lo hi : Dy) (i : Int) (c : Nat) (hl : Num lo) (hh : Num hi) (h : leD lo hi) (h1 : -9223372036854775808 ≤ i) (h2 : i < 9223372036854775808) :
  VSpec Tryz.prog F.l10some c [fsV t u lo hi, iv i] (fun r _ => SomeA lo hi r) := by
 refine sG hm G.l10some ?_
 unfold C.l10some R.l10some cD
 have nl := hl.rn
 have nh := hh.rn
 have bn := nl.neg.bits
 have bh := nh.bits
 have bl0 := nl.bits
 refine zRF @nb_app ?_
 refine s_call (rneg_spec t lo (c + 2) hl.r) wS ?_
 rintro v c1 hc1 rfl
 refine zRF @nb_app ?_
 refine s_call (radd2_spec u t hi (negD lo) c1 hh.r (nl.neg.r (by decide) (by decide)) (by omega) (by omega)) wS ?_
 rintro v c2 hc2 (⟨b1, b2, tk, rfl⟩ | ⟨_, tk, rfl⟩)
 rotate_left
 ·refine zRF @nb_app ?_
  exact .inl ⟨t, lo, rfl, leD_refl _, h, nl.mono (by decide) (by decide)⟩
 have nw : Rn 201326595 (2199023255552 + 67108864 + 1) (addD hi (negD lo)) := nh.add nl.neg (by omega)
 have hin : ∀ k, k ≤ 16 → _ := fun k hk => some_in (k := k) h hk
 generalize addD hi (negD lo) = w at *
 have bw := nw.bits
 have hm1 : -17 < i.tmod 17 := Int.lt_tmod_of_pos i (by decide)
 have hm2 : i.tmod 17 < 17 := Int.tmod_lt_of_pos i (by decide)
 refine zSF @nb_app ?_
 refine vwp_seq ?_
 refine v_reg ?_
 refine zS ?_
 refine v_cond ?_
 refine zS ?_
 refine vwp_skip ?_
 refine zS ?_
 refine vwp_seq (vwp_region (wpr_app (a := [_, _, _, _]) ?_))
 refine zSF @nb_app ?_
 refine wpr_pure ⟨iv (i.tmod 17), rfl, ?_⟩
 refine wps_wpr ?_
 generalize i.tmod 17 = m at *
 obtain ⟨k, hk⟩ : ∃ k : Nat, (m + 17) % 17 = (k : Int) := ⟨((m + 17) % 17).toNat, by omega⟩
 have hk16 : k ≤ 16 := by omega
 obtain ⟨hi1, hi2⟩ := hin k hk16
 have nk := k16_rn hk16
 have bk := nk.bits
 refine zRF (jn hk @nb_app) ?_
 refine s_call (int08K k (-4) (c2 + 1) (by omega) (by decide)) wS ?_
 rintro v c3 hc3 ⟨t3, rfl⟩
 refine zSF @nb_app ?_
 refine s_call (rmul_spec tk t3 w (dyOf false k (-4)) c3 (nw.r (by decide) (by decide)) (nk.r (by decide) (by decide)) (by omega) (by omega)) wS ?_
 rintro v c4 hc4 ⟨t4, rfl⟩
 have np := (nw.mul nk).mono (b' := 201326600) (E' := 2203318222848) (by decide) (by decide)
 generalize mulD w (dyOf false k (-4)) = p at *
 have bp := np.bits
 refine zSF @nb_app ?_
 refine s_call (radd2_spec t t4 lo p c4 hl.r (np.r (by decide) (by decide)) (by omega) (by omega)) wS ?_
 rintro v c5 hc5 (⟨b3, b4, tq, rfl⟩ | ⟨_, tq, rfl⟩)
 ·have nx := ((nl.mono (b' := 201326600) (E' := 2203318222848) (by decide) (by decide)).add np (B := 402653184) (by omega)).mono (b' := 402653184) (E' := 4398046511104) (by decide) (by decide)
  refine zRF @nb_app ?_
  exact .inl ⟨tq, _, rfl, hi1, hi2, nx⟩
 ·refine zRF @nb_app ?_
  exact .inr ⟨tq, rfl⟩
theorem quot10_spec (t u v0 w : Tok) (lo hi x y : Dy) (c : Nat) (hl : RNum lo) (hh : RNum hi) (hx : RNum x) (hy : RNum y) (bl1 : Rn 67108864 2199023255552 lo) (bh1 : Rn 67108864 2199023255552 hi) (by1 : Rn 402653184 4398046511104 y)
  (h1 : y.sg < 0 → leD (mulD hi y) x ∧ leD x (mulD lo y)) (h2 : ¬ y.sg < 0 → leD (mulD lo y) x ∧ leD x (mulD hi y)) :
  VSpec Tryz.prog F.l10quotient c [fsV t u lo hi, fV v0 x, fV w y] (fun r _ => r = bv true) := by
 refine sG hm G.l10quotient ?_
 unfold C.l10quotient R.l10quotient cD
 have b1 := bl1.bits
 have b2 := bh1.bits
 have b3 := by1.bits
 have r1 := (bl1.mul by1).r (by decide) (by decide)
 have r2 := (bh1.mul by1).r (by decide) (by decide)
 have es : sgW y.neg y.m = y.sg := rfl
 refine zRF @nb_app ?_
 refine s_call (rmul_spec t w lo y (c + 3) hl hy (by omega) (by omega)) wS ?_
 rintro v c1 hc1 ⟨t1, rfl⟩
 refine zRF @nb_app ?_
 refine s_call (rmul_spec u w hi y c1 hh hy (by omega) (by omega)) wS ?_
 rintro v c2 hc2 ⟨t2, rfl⟩
 generalize mulD lo y = p at *
 generalize mulD hi y = q at *
 unfold leD at h1 h2
 refine zRF @nb_app ?_
 refine s_call (zsign_spec y.neg w y.m (c2 + 2) hy.bits hy.nz) wS ?_
 rw [es]
 rintro v c3 hc3 rfl
 by_cases g : y.sg < 0
 ·obtain ⟨g1, g2⟩ := h1 g
  refine zRF (jn g @nb_app) ?_
  refine s_call (rcmp_spec t2 v0 q x c3 r2 hx) wS ?_
  rintro v c4 hc4 rfl
  refine zRF (jn g1 @nb_app) ?_
  refine s_call (rcmp_spec v0 t1 x p c4 hx r1) wS ?_
  rintro v c5 hc5 rfl
  refine zRF (jn g2 @nb_app) ?_
  exact yE
 ·obtain ⟨g1, g2⟩ := h2 g
  refine zRF (jn g @nb_app) ?_
  refine s_call (rcmp_spec t1 v0 p x c3 r1 hx) wS ?_
  rintro v c4 hc4 rfl
  refine zRF (jn g1 @nb_app) ?_
  refine s_call (rcmp_spec v0 t2 x q c4 hx r2) wS ?_
  rintro v c5 hc5 rfl
  refine zRF (jn g2 @nb_app) ?_
  exact yE
theorem abs06_spec (t : Tok) (neg : Bool) (m c : Nat) : VSpec Tryz.prog F.r06Abs c [zV t neg m] (fun r _ => r = zV t false m) := by
 refine sG hm G.r06Abs ?_
 unfold C.r06Abs R.r06Abs cD
 refine zR ?_
 exact yE
theorem abs08_spec (t : Tok) (x : Dy) (c : Nat) (hx : x.Ok) : VSpec Tryz.prog F.r08Abs c [fV t x] (fun r _ => r = fV t (dyOf false x.m x.e)) := by
 refine sG hm G.r08Abs ?_
 unfold C.r08Abs R.r08Abs cD
 have e : dyOf false x.m x.e = ⟨false, x.m, x.e⟩ := dyOf_id (d := ⟨false, x.m, x.e⟩) ⟨hx.odd, fun h => by have := hx.zero h; rw [this]; rfl⟩
 rw [e]
 refine zR ?_
 refine s_call (abs06_spec t x.neg x.m (c + 2)) wS ?_
 rintro v c1 hc1 rfl
 refine zR ?_
 exact yE

theorem sz_nn (a : RD) : leD dy0 a.sz.d := by
 rw [nn_iff, sz_d]
 unfold Dy.sg
 split
 ·exact Int.le_refl _
 ·rename_i h
  have e : (dyOf false a.d.m a.d.e).neg = false := by unfold dyOf; split <;> rfl
  rw [e]; decide
theorem sizes_nn (ta tb : Tok) (a b : RD) (c : Nat) (ha : a.Ok) (hb : b.Ok) :
  VSpec Tryz.prog F.span_sizes c [rsV ta tb a b] (fun r _ => ∃ tl th, ∃ lo hi : RD, r = rsV tl th lo hi ∧ lo.Ok ∧ hi.Ok ∧ mulD lo.d lo.d = sqL a.d b.d ∧ mulD hi.d hi.d = sqH a.d b.d ∧ leD dy0 lo.d ∧ leD lo.d hi.d) := by
 refine sG hm G.span_sizes ?_
 unfold C.span_sizes R.span_sizes cD
 unfold sqL sqH
 rw [← sz_d, ← sz_d]
 refine zRF @nb_app ?_
 refine s_call (size_spec ta a (c + 2)) wS ?_
 rintro v c1 hc1 rfl
 refine zRF @nb_app ?_
 refine s_call (size_spec tb b c1) wS ?_
 rintro v c2 hc2 rfl
 refine zRF @nb_app ?_
 refine s_call (Compare_spec ta tb a.sz b.sz (c2 + 2) ha.sz hb.sz) wS ?_
 rintro v c3 hc3 rfl
 have r0 : leD dy0 rd0.d := by rw [rd0_d]; exact leD_refl _
 have fl := cmpD_flip a.sz.d b.sz.d
 by_cases g : 0 < cmpD a.sz.d b.sz.d
 ·rw [if_pos g, if_pos g]
  refine zRF g ?_
  refine s_call (nought_spec ta tb a b c3 ha.arg hb.arg) wS ?_
  rintro v c4 hc4 rfl
  cases hn : nzB a.d b.d with
  | true =>
   refine zR ?_
   exact ⟨_, _, rd0, a.sz, rfl, rd0_ok, ha.sz, by rw [rd0_d, mul_0], sq_sz a, r0, by rw [rd0_d]; exact sz_nn a⟩
  | false =>
   refine zR ?_
   exact ⟨_, _, b.sz, a.sz, rfl, hb.sz, ha.sz, sq_sz b, sq_sz a, sz_nn b, by unfold leD; omega⟩
 ·rw [if_neg g, if_neg g]
  refine zRF g ?_
  refine s_call (nought_spec ta tb a b c3 ha.arg hb.arg) wS ?_
  rintro v c4 hc4 rfl
  cases hn : nzB a.d b.d with
  | true =>
   refine zR ?_
   exact ⟨_, _, rd0, b.sz, rfl, rd0_ok, hb.sz, by rw [rd0_d, mul_0], sq_sz b, r0, by rw [rd0_d]; exact sz_nn b⟩
  | false =>
   refine zR ?_
   exact ⟨_, _, a.sz, b.sz, rfl, ha.sz, hb.sz, sq_sz a, sq_sz b, sz_nn a, by unfold leD; omega⟩
theorem sabs_spec (ta tb : Tok) (a b : RD) (c : Nat) (ha : Arg a.l) (hb : Arg b.l) : VSpec Tryz.prog F.span_Abs c [rsV ta tb a b] (fun r c' => ∃ lo hi : Dy, lo.Ok ∧ hi.Ok ∧ (chkE a b = 0 → mulD lo lo = sqL a.d b.d ∧ mulD hi hi = sqH a.d b.d ∧ leD dy0 lo ∧ leD lo hi) ∧ AnsF c c' (chkE a b) lo hi r) := by
 refine sG hm G.span_Abs ?_
 unfold C.span_Abs R.span_Abs cD
 refine zR ?_
 refine s_call (check_spec ta tb a b (c + 2) ha hb) wS ?_
 rintro v c1 hc1 rfl
 by_cases g : chkE a b = 0
 ·obtain ⟨fa, fb, _⟩ := chk_ok g
  refine zRF g ?_
  refine s_call (sizes_nn ta tb a b c1 ⟨ha, fa⟩ ⟨hb, fb⟩) wS ?_
  rintro v c2 hc2 ⟨tl, th, lo, hi, rfl, ol, oh, q1, q2, q3, q4⟩
  refine zR ?_
  refine s_call (normal_spec tl th lo hi (c2 + 1) ol oh) wS ?_
  rintro v c3 hc3 ⟨t, u, cm, g1, g2, rfl, gt, gu⟩
  refine zR ?_
  exact ⟨lo.d, hi.d, ol.num.ok, oh.num.ok, fun _ => ⟨q1, q2, q3, q4⟩, fun h => absurd rfl h, fun _ => ⟨t, u, cm, by omega, by omega, rfl, gt.mono (by omega) (Nat.le_refl _), gu⟩⟩
 ·refine zRF g ?_
  exact ⟨dy0, dy0, dy0_ok, dy0_ok, fun h => (by first | exact absurd h g | exact h.elim), fun _ => rfl, fun e => absurd e g⟩

theorem shr_two' {x s : Nat} (hs : s ≤ 63) : x / 2 ^ (64 - s) = x / 2 / 2 ^ (63 - s) := by
 rw [Nat.div_div_eq_div_mul, show 64 - s = (63 - s) + 1 by omega, Nat.pow_succ, Nat.mul_comm]
theorem rleft_spec (t : Tok) (l : List Nat) (k c : Nat) (hl : Lim 18446744073709551616 l) (hn : l.length ≤ 17179869184) (hk : k ≤ 1099511627776) :
  VSpec Tryz.prog F.q_left c [nats t l, iv (k : Int)] (fun r c' => NatR c c' (val 18446744073709551616 l * 2 ^ k) r) := by
 refine sG hm G.q_left ?_
 unfold C.q_left R.q_left cD
 by_cases gz : (l.length : Int) = 0
 ·have e : val 18446744073709551616 l = 0 := by rw [List.eq_nil_of_length_eq_zero (by omega : l.length = 0)]; rfl
  refine xRF gz ?_
  rw [e, Nat.zero_mul]
  exact ⟨.nil, rfl, .inl rfl⟩
 have d1 : (k : Int) / 64 = ((k / 64 : Nat) : Int) := by omega
 have d2 : (k : Int) % 64 = ((k % 64 : Nat) : Int) := by omega
 have hs : k % 64 < 64 := Nat.mod_lt _ (by decide)
 have hpow : val 18446744073709551616 l * 2 ^ k = 18446744073709551616 ^ (k / 64) * (val 18446744073709551616 l * 2 ^ (k % 64)) := by
  rw [pow64, Nat.mul_left_comm, ← Nat.pow_add, show 64 * (k / 64) + k % 64 = k by omega]
 have hwd : k / 64 ≤ 17179869184 := by omega
 generalize k / 64 = wd at *
 generalize k % 64 = s at *
 have d3 : ((s : Nat) : Int).toNat = s := by omega
 have d4 : (63 : Int) - (s : Int) = ((63 - s : Nat) : Int) := by omega
 have d5 : ((63 - s : Nat) : Int).toNat = 63 - s := by omega
 refine xRF (jn gz d1) ?_
 refine s_mk (n := wd + l.length + 1) (m := wd + l.length + 1) ySr ySr (Nat.le_refl _) (by omega) ?_
 refine xR ?_
 refine v_loop (fun S => ∃ w, w.length = wd + l.length + 1 ∧ Lim 18446744073709551616 w ∧ val 18446744073709551616 w = val 18446744073709551616 l * 2 ^ k ∧ S.ρ 5 = .buf c 0 (wd + l.length + 1) (some (wd + l.length + 1)) 1 ∧ S.σ = supd noBlk c (nblk w) ∧ c + 1 ≤ S.c) ?_ ?_
 ·refine vwp_loop (fun kk S => ∃ i w top, kk = l.length - i ∧ i ≤ l.length ∧ w.length = i ∧ Lim 18446744073709551616 w ∧ top < 2 ^ s ∧ val 18446744073709551616 (w ++ [top]) = val 18446744073709551616 (l.take i) * 2 ^ s ∧ S.ρ 18 = nats t l ∧ S.ρ 1 = iv k ∧ S.ρ 19 = iv l.length ∧ S.ρ 20 = iv i ∧ S.ρ 5 = .buf c 0 (wd + l.length + 1) (some (wd + l.length + 1)) 1 ∧ S.σ = supd noBlk c (nblk ((List.replicate wd 0 ++ w) ++ top :: List.replicate (l.length - i) 0)) ∧ c + 1 ≤ S.c) l.length ?_ ?_
  ·refine ⟨0, [], 0, by omega, by omega, ?_⟩
   refine xS ?_
   have e0 : List.replicate (wd + l.length + 1) 0 = (List.replicate wd 0 ++ []) ++ 0 :: List.replicate (l.length - 0) 0 := by
    rw [List.append_nil, Nat.sub_zero, show wd + l.length + 1 = wd + (l.length + 1) by omega, ← List.replicate_append_replicate, List.replicate_succ]
   (repeat' apply And.intro) <;> first | rfl | omega | assumption | exact Lim.nil | exact Nat.two_pow_pos s | (simp [val]; done) | (rw [e0])
  rintro kk ⟨ρ2, σ, c4⟩ ⟨i, w, top, hk', hi, hw, hlw, ht, hinv, h18, h1, h19, h20, h5, hσ, hc4⟩
  dsimp only at h18 h1 h19 h20 h5 hσ hc4
  subst hσ
  by_cases g : (i : Int) < l.length
  ·have hi' : i < l.length := by omega
   have hxi := hl.getD (i := i) (by decide)
   obtain ⟨p1, p2, p3⟩ := shl_parts hs hxi
   obtain ⟨o1, o2⟩ := or_top hs hxi ht
   have e1 : ((wd : Int) + (i : Int)).toNat = wd + i := by omega
   have e2 : ((wd : Int) + (i : Int) + 1).toNat = wd + i + 1 := by omega
   have e3 : min s 64 = s := by omega
   have e5 : min (63 - s) 64 = 63 - s := by omega
   have hps : 2 ^ s ≤ 18446744073709551616 := Nat.le_trans (Nat.pow_le_pow_right (by decide) (show s ≤ 64 by omega)) (by decide)
   have e6 : top % 18446744073709551616 = top := Nat.mod_eq_of_lt (by omega)
   have e8 := shr_two' (x := l.getD i 0) (s := s) (by omega)
   have e7 : l.getD i 0 / 2 / 2 ^ (63 - s) % 18446744073709551616 = l.getD i 0 / 2 / 2 ^ (63 - s) := Nat.mod_eq_of_lt (by omega)
   have hl1 : (List.replicate wd 0 ++ w).length = wd + i := by simp; omega
   have hget1 : ((List.replicate wd 0 ++ w) ++ top :: List.replicate (l.length - i) 0).getD (wd + i) 0 = top := by
    rw [← hl1]; exact getD_at _ _ _
   have hlen1 : ((List.replicate wd 0 ++ w) ++ top :: List.replicate (l.length - i) 0).length = wd + l.length + 1 := by simp; omega
   have hset1 : ∀ v, ((List.replicate wd 0 ++ w) ++ top :: List.replicate (l.length - i) 0).set (wd + i) v = ((List.replicate wd 0 ++ w) ++ [v]) ++ 0 :: List.replicate (l.length - (i + 1)) 0 := fun v => by
    rw [← hl1, set_at, show l.length - i = l.length - (i + 1) + 1 by omega, List.replicate_succ]; simp
   have hl2 : ∀ v, ((List.replicate wd 0 ++ w) ++ [v]).length = wd + i + 1 := fun v => by simp; omega
   have hlen2 : ∀ v, (((List.replicate wd 0 ++ w) ++ [v]) ++ 0 :: List.replicate (l.length - (i + 1)) 0).length = wd + l.length + 1 := fun v => by simp; omega
   have hget2 : ∀ v, (((List.replicate wd 0 ++ w) ++ [v]) ++ 0 :: List.replicate (l.length - (i + 1)) 0).getD (wd + i + 1) 0 = 0 := fun v => by
    rw [← hl2 v]; exact getD_at _ _ _
   have hset2 : ∀ v u, (((List.replicate wd 0 ++ w) ++ [v]) ++ 0 :: List.replicate (l.length - (i + 1)) 0).set (wd + i + 1) u = (List.replicate wd 0 ++ (w ++ [v])) ++ u :: List.replicate (l.length - (i + 1)) 0 := fun v u => by
    rw [← hl2 v, set_at, List.append_assoc (List.replicate wd 0)]
   have key := shl_step (i := i) hw hinv p1
   rw [← Nat.mul_assoc, ← Nat.add_mul, ← val_take (l := l) (i := i) hi'] at key
   refine xRF (jn h18 (jn h1 (jn h19 (jn h20 (jn h5 (jn g (jn d1 (jn d2 (jn d3 (jn d4 (jn d5 (jn e1 (jn e2 (jn e3 (jn e5 (jn hget1 (jn hlen1 (jn hset1 (jn @u_or (jn e6 (jn @Nat.mod_mod (jn o1 (jn hlen2 (jn hget2 (jn hset2 (jn e8 (jn e7 (jn @Nat.zero_mod @Nat.zero_or)))))))))))))))))))))))))))) ?_
   refine ⟨l.length - (i + 1), by omega, i + 1, w ++ [top + l.getD i 0 * 2 ^ s % 18446744073709551616], l.getD i 0 / 2 / 2 ^ (63 - s), ?_⟩
   (repeat' apply And.intro) <;> first | rfl | omega | assumption | (simp [hw]; done) | exact lim_snoc hlw o2 | exact key
  ·have hi' : i = l.length := by omega
   subst hi'
   refine xRF (jn h18 (jn h1 (jn h19 (jn h20 (jn h5 g))))) ?_
   rw [List.take_length] at hinv
   have hps : 2 ^ s ≤ 18446744073709551616 := Nat.le_trans (Nat.pow_le_pow_right (by decide) (show s ≤ 64 by omega)) (by decide)
   refine ⟨(List.replicate wd 0 ++ w) ++ [top], ?_⟩
   have e0 : (List.replicate wd 0 ++ w) ++ top :: List.replicate (l.length - l.length) 0 = (List.replicate wd 0 ++ w) ++ [top] := by simp
   rw [e0]
   have hvv : val 18446744073709551616 ((List.replicate wd 0 ++ w) ++ [top]) = val 18446744073709551616 l * 2 ^ k := by
    rw [List.append_assoc, val_zeros, hinv, hpow]
   (repeat' apply And.intro) <;> first | rfl | omega | assumption | (simp [hw]; omega) | exact (Lim.append (Lim.append (Lim.replicate (by decide)) hlw) (.cons (by omega) .nil)) | exact hvv
 rintro ⟨ρ3, σ, c5⟩ ⟨w, hw, hlw, hvw, h5, hσ, hc5⟩
 dsimp only at h5 hσ hc5
 subst hσ
 refine v_freeze 5 (t := c) (off := 0) (n := wd + l.length + 1) (cap := some (wd + l.length + 1)) (l := w) (ySF h5) yS (by omega) (by omega) ?_
 rw [List.drop_zero, show w.take (wd + l.length + 1) = w from List.take_of_length_le (by omega)]
 refine xR ?_
 refine s_call (norm_spec (.id c) w c5 hlw (by omega)) yM ?_
 rintro v c6 hc6 ⟨tk, rfl, htk⟩
 rw [hvw]
 refine xR ?_
 exact ⟨tk, rfl, htk.mono (by omega) (by omega)⟩

theorem val_right' (x : List Nat) (n : Nat) (hx : Lim 18446744073709551616 x) : val 18446744073709551616 x / 2 ^ n = val 18446744073709551616 (x.drop (n / 64)) / 2 ^ (n % 64) := by
 have e : 2 ^ n = 18446744073709551616 ^ (n / 64) * 2 ^ (n % 64) := by rw [pow64, ← Nat.pow_add, Nat.div_add_mod]
 rw [e, ← Nat.div_div_eq_div_mul]
 congr 1
 rcases Nat.lt_or_ge x.length (n / 64) with g | g
 ·rw [List.drop_eq_nil_of_le (Nat.le_of_lt g)]
  exact Nat.div_eq_of_lt (Nat.lt_of_lt_of_le (val_lt hx) (Nat.pow_le_pow_right (by decide) (Nat.le_of_lt g)))
 ·have h := val_take_drop 18446744073709551616 (n / 64) x g
  have h2 : val 18446744073709551616 (x.take (n / 64)) < 18446744073709551616 ^ (n / 64) := by
   have := val_lt (hx.take (k := n / 64))
   rwa [List.length_take, Nat.min_eq_left g] at this
  rw [h, Nat.add_mul_div_left _ _ (Nat.pow_pos (by decide)), Nat.div_eq_of_lt h2, Nat.zero_add]
theorem drop_at {l : List Nat} {i : Nat} (h : i < l.length) : l.drop i = l.getD i 0 :: l.drop (i + 1) := by
 rw [List.drop_eq_getElem_cons h, List.getD_eq_getElem?_getD, List.getElem?_eq_getElem h]; rfl
theorem rright_spec (t : Tok) (a : List Nat) (n c : Nat) (ha : Lim 18446744073709551616 a) (hna : a.length ≤ 17179869184) (hn : n ≤ 1099511627776) :
  VSpec Tryz.prog F.q_right c [nats t a, iv (n : Int)] (fun r c' => NatR c c' (val 18446744073709551616 a / 2 ^ n) r) := by
 refine sG hm G.q_right ?_
 unfold C.q_right R.q_right cD
 have d1 : (n : Int) / 64 = ((n / 64 : Nat) : Int) := by omega
 have d2 : (n : Int) % 64 = ((n % 64 : Nat) : Int) := by omega
 have hvr := val_right' a n ha
 have hs64 : n % 64 < 64 := Nat.mod_lt _ (by decide)
 generalize n / 64 = q at *
 generalize n % 64 = s at *
 by_cases gz : (a.length : Int) ≤ (q : Int)
 ·have hx0 : a.drop q = [] := List.drop_eq_nil_of_le (by omega)
  refine xRF (jn d1 gz) ?_
  rw [hvr, hx0, val_nil, Nat.zero_div]
  exact ⟨.nil, rfl, .inl rfl⟩
 have d3 : ((s : Nat) : Int).toNat = s := by omega
 have d4 : (63 : Int) - (s : Int) = ((63 - s : Nat) : Int) := by omega
 have d5 : ((63 - s : Nat) : Int).toNat = 63 - s := by omega
 have dq : ((q : Nat) : Int).toNat = q := by omega
 have hlX : (a.drop q).length = a.length - q := List.length_drop
 have hX := ha.drop (k := q)
 have hql : q ≤ a.length := by omega
 have hp : (18446744073709551616 : Nat) = 2 ^ s * 2 ^ (64 - s) := by rw [← Nat.pow_add, show s + (64 - s) = 64 by omega]
 refine xRF (jn d1 gz) ?_
 refine s_app0 (t := t.cut (q : Int)) (l := a.drop q) yS yS (by rw [hlX]; omega) (fun e => ?_) (fun _ => ?_)
 ·have := congrArg List.length e
  rw [hlX, List.length_nil] at this
  omega
 rw [hlX]
 have hvx : val 18446744073709551616 (a.drop q) / 2 ^ s = val 18446744073709551616 a / 2 ^ n := hvr.symm
 clear hvr
 obtain ⟨x, hx⟩ : ∃ x, x = a.drop q := ⟨_, rfl⟩
 obtain ⟨m, hm⟩ : ∃ m, m = a.length - q := ⟨_, rfl⟩
 rw [← hx] at hlX hX hvx ⊢
 rw [← hm] at hlX ⊢
 refine xR ?_
 refine v_loop (fun S => ∃ w, w.length = m ∧ Lim 18446744073709551616 w ∧ val 18446744073709551616 w = val 18446744073709551616 x / 2 ^ s ∧ S.ρ 5 = .buf c 0 m none 1 ∧ S.σ = supd noBlk c (nblk w) ∧ c + 1 ≤ S.c) ?_ ?_
 ·refine vwp_loop (fun k S => ∃ i w, k = m - i ∧ i ≤ m ∧ w.length = i ∧ Lim 18446744073709551616 w ∧ val 18446744073709551616 w * 2 ^ s + x.getD 0 0 % 2 ^ s = val 18446744073709551616 (x.take i) + 18446744073709551616 ^ i * (x.getD i 0 % 2 ^ s) ∧ S.ρ 1 = iv n ∧ S.ρ 18 = iv m ∧ S.ρ 19 = iv i ∧ S.ρ 5 = .buf c 0 m none 1 ∧ S.σ = supd noBlk c (nblk (w ++ x.drop i)) ∧ c + 1 ≤ S.c) m ?_ ?_
  ·refine ⟨0, [], by omega, by omega, ?_⟩
   refine xS ?_
   (repeat' apply And.intro) <;> first | rfl | omega | assumption | exact Lim.nil | (simp [val]; done)
  rintro k ⟨ρ2, σ, c4⟩ ⟨i, w, hk, hi, hw, hlw, hinv, h1, h18, h19, h5, hσ, hc4⟩
  dsimp only at h1 h18 h19 h5 hσ hc4
  subst hσ
  by_cases g : (i : Int) < m
  ·have hi' : i < m := by omega
   have hxi := hX.getD (i := i) (by decide)
   obtain ⟨o1, o2⟩ := down_limb (y := x.getD (i + 1) 0) hs64 hxi
   have e2 : ((i : Int) + 1).toNat = i + 1 := by omega
   have e3 : min s 64 = s := by omega
   have e5 : min (63 - s) 64 = 63 - s := by omega
   have e6 : x.getD i 0 / 2 ^ s < 18446744073709551616 := Nat.lt_of_le_of_lt (Nat.div_le_self _ _) hxi
   have e7 : x.getD i 0 / 2 ^ s % 18446744073709551616 = x.getD i 0 / 2 ^ s := Nat.mod_eq_of_lt e6
   have hdr := drop_at (l := x) (i := i) (by omega)
   have hlen0 : (w ++ x.drop i).length = m := by simp; omega
   have hget0 : (w ++ x.drop i).getD i 0 = x.getD i 0 := by rw [hdr, ← hw]; exact getD_at _ _ _
   have hset0 : ∀ v, (w ++ x.drop i).set i v = w ++ v :: x.drop (i + 1) := fun v => by
    rw [hdr]
    conv => lhs; rw [← hw]
    rw [set_at, hw]
   have hlen1 : ∀ v, (w ++ v :: x.drop (i + 1)).length = m := fun v => by simp; omega
   have hget1 : ∀ v, (w ++ v :: x.drop (i + 1)).getD i 0 = v := fun v => by rw [← hw]; exact getD_at _ _ _
   have hget2 : ∀ v, (w ++ v :: x.drop (i + 1)).getD (i + 1) 0 = x.getD (i + 1) 0 := fun v => by
    rw [List.getD_eq_getElem?_getD, List.getD_eq_getElem?_getD, List.getElem?_append_right (by omega), hw, show i + 1 - i = 1 by omega, List.getElem?_cons_succ, List.getElem?_drop, Nat.add_zero]
   have hset1 : ∀ v u, (w ++ v :: x.drop (i + 1)).set i u = w ++ u :: x.drop (i + 1) := fun v u => by
    conv => lhs; rw [← hw]
    rw [set_at, hw]
   have key := down_step (y := x.getD (i + 1) 0) hw hinv hp rfl
   rw [← val_take (l := x) (i := i) (by omega)] at key
   have eapp : ∀ v, w ++ v :: x.drop (i + 1) = (w ++ [v]) ++ x.drop (i + 1) := fun v => by simp
   by_cases g5 : (i : Int) + 1 < m
   ·refine xRF (jn h1 (jn h18 (jn h19 (jn h5 (jn g (jn g5 (jn d2 (jn d3 (jn d4 (jn d5 (jn e2 (jn e3 (jn e5 (jn e7 (jn hlen0 (jn hget0 (jn hset0 (jn hlen1 (jn hget1 (jn hget2 (jn hset1 (jn @u_or (jn @Nat.mod_mod o1))))))))))))))))))))))) ?_
    refine ⟨m - (i + 1), by omega, i + 1, w ++ [x.getD i 0 / 2 ^ s + (x.getD (i + 1) 0 % 2 ^ s) * 2 ^ (64 - s)], ?_⟩
    rw [eapp]
    (repeat' apply And.intro) <;> first | rfl | exact key | exact lim_snoc hlw o2 | (simp [hw]; done) | omega | assumption
   ·have hy : x.getD (i + 1) 0 = 0 := getD_ge (by omega)
    rw [hy, Nat.zero_mod, Nat.zero_mul, Nat.add_zero] at key
    refine xRF (jn h1 (jn h18 (jn h19 (jn h5 (jn g (jn g5 (jn d2 (jn d3 (jn e2 (jn e3 (jn e7 (jn hlen0 (jn hget0 hset0))))))))))))) ?_
    refine ⟨m - (i + 1), by omega, i + 1, w ++ [x.getD i 0 / 2 ^ s], ?_⟩
    rw [eapp, hy, Nat.zero_mod]
    (repeat' apply And.intro) <;> first | rfl | exact key | exact lim_snoc hlw e6 | (simp [hw]; done) | omega | assumption
  ·have hi' : i = m := by omega
   subst hi'
   refine xRF (jn h1 (jn h18 (jn h19 (jn h5 g)))) ?_
   rw [List.take_of_length_le (l := x) (by omega), getD_ge (l := x) (i := i) (by omega), Nat.zero_mod, Nat.mul_zero, Nat.add_zero] at hinv
   refine ⟨w, ?_⟩
   have e0 : w ++ x.drop i = w := by rw [List.drop_eq_nil_of_le (by omega), List.append_nil]
   rw [e0]
   have hv : val 18446744073709551616 w = val 18446744073709551616 x / 2 ^ s := (div_mod_of hinv (Nat.mod_lt _ (Nat.two_pow_pos s))).1.symm
   (repeat' apply And.intro) <;> first | rfl | omega | assumption | exact hv
 rintro ⟨ρ3, σ, c5⟩ ⟨w, hw, hlw, hvw, h5, hσ, hc5⟩
 dsimp only at h5 hσ hc5
 subst hσ
 refine v_freeze 5 (t := c) (off := 0) (n := m) (cap := none) (l := w) (ySF h5) yS (by omega) (by omega) ?_
 rw [List.drop_zero, show w.take m = w from List.take_of_length_le (by omega)]
 refine xR ?_
 refine s_call (norm_spec (.id c) w c5 hlw (by omega)) yM ?_
 rintro v c6 hc6 ⟨tk, rfl, htk⟩
 rw [hvw, hvx]
 refine xR ?_
 exact ⟨tk, rfl, htk.mono (by omega) (by omega)⟩
end Go.Proofs.YtcafgpconlkecaaGreatDoor
namespace Go.VM

structure Rt where
 neg : Bool
 n : Nat
 d : Nat
def sz (neg : Bool) (n : Nat) : Int := if neg = true then -(n : Int) else (n : Int)
def Rt.z (r : Rt) : Int := sz r.neg r.n
structure Rt.Ok (r : Rt) : Prop where
 d0 : 0 < r.d
 zero : r.n = 0 → r.neg = false
structure RV (r : Rt) (z : Int) (d : Nat) (e : Int) : Prop where
 ok : r.Ok
 d0 : 0 < d
 eq : ∀ i j : Nat, (i : Int) - (j : Int) = e → r.z * (d : Int) * ((2 ^ j : Nat) : Int) = z * (r.d : Int) * ((2 ^ i : Nat) : Int)
theorem p2_pos (k : Nat) : (0 : Int) < ((2 ^ k : Nat) : Int) := by have := Nat.two_pow_pos k; omega
theorem p2_add (i j : Nat) : ((2 ^ (i + j) : Nat) : Int) = ((2 ^ i : Nat) : Int) * ((2 ^ j : Nat) : Int) := by rw [Nat.pow_add]; exact Int.natCast_mul _ _
theorem p2_cross {i j i' j' : Nat} (h : i + j' = i' + j) : ((2 ^ i : Nat) : Int) * ((2 ^ j' : Nat) : Int) = ((2 ^ i' : Nat) : Int) * ((2 ^ j : Nat) : Int) := by rw [← p2_add, ← p2_add, h]
theorem RV.of {r : Rt} {z : Int} {d : Nat} {e : Int} (ok : r.Ok) (d0 : 0 < d) (i j : Nat) (he : (i : Int) - (j : Int) = e) (h : r.z * (d : Int) * ((2 ^ j : Nat) : Int) = z * (r.d : Int) * ((2 ^ i : Nat) : Int)) : RV r z d e := by
 refine ⟨ok, d0, fun i' j' he' => ?_⟩
 have hc := p2_cross (i := i) (j := j) (i' := i') (j' := j') (by omega)
 have hi := p2_pos j
 refine Int.eq_of_mul_eq_mul_left (Int.ne_of_gt hi) ?_
 generalize ((2 ^ i : Nat) : Int) = A at *
 generalize ((2 ^ j : Nat) : Int) = B at *
 generalize ((2 ^ i' : Nat) : Int) = A' at *
 generalize ((2 ^ j' : Nat) : Int) = B' at *
 grind
theorem RV.pos {r : Rt} {z : Int} {d : Nat} {e : Int} (h : RV r z d e) : (0 : Int) < (r.d : Int) ∧ (0 : Int) < (d : Int) := ⟨by have := h.ok.d0; omega, by have := h.d0; omega⟩
theorem RV.to {r : Rt} {z z' : Int} {d d' : Nat} {e e' : Int} (h : RV r z d e) (d0' : 0 < d') (i j : Nat) (hij : (i : Int) - (j : Int) = e - e') (hz : z * (d' : Int) * ((2 ^ i : Nat) : Int) = z' * (d : Int) * ((2 ^ j : Nat) : Int)) : RV r z' d' e' := by
 have h0 := h.eq e.toNat (-e).toNat (by omega)
 have hp := h.pos
 refine RV.of h.ok d0' (e.toNat + j) ((-e).toNat + i) (by omega) ?_
 have hd := h.pos.2
 refine Int.eq_of_mul_eq_mul_left (Int.ne_of_gt hd) ?_
 rw [p2_add, p2_add]
 generalize ((2 ^ i : Nat) : Int) = A at *
 generalize ((2 ^ j : Nat) : Int) = B at *
 generalize ((2 ^ e.toNat : Nat) : Int) = A' at *
 generalize ((2 ^ (-e).toNat : Nat) : Int) = B' at *
 grind
def mkR (neg : Bool) (n d : Nat) : Rt := if n = 0 then ⟨false, 0, 1⟩ else ⟨neg, n / Nat.gcd n d, d / Nat.gcd n d⟩
theorem sz_zero (neg : Bool) : sz neg 0 = 0 := by cases neg <;> rfl
theorem sz_mul (neg : Bool) (n m : Nat) : sz neg (n * m) = sz neg n * (m : Int) := by
 cases neg
 ·exact Int.natCast_mul _ _
 ·show -((n * m : Nat) : Int) = -(n : Int) * (m : Int)
  rw [Int.natCast_mul, Int.neg_mul]
theorem mkR_rv (neg : Bool) {n d : Nat} (h : 0 < d) : RV (mkR neg n d) (sz neg n) d 0 := by
 by_cases g : n = 0
 ·subst g
  have e : mkR neg 0 d = ⟨false, 0, 1⟩ := if_pos rfl
  rw [e]
  refine RV.of ⟨by decide, fun _ => rfl⟩ h 0 0 (by omega) ?_
  rw [sz_zero]
  show (0 : Int) * _ * _ = 0 * _ * _
  rw [Int.zero_mul, Int.zero_mul, Int.zero_mul]
 ·have e : mkR neg n d = ⟨neg, n / Nat.gcd n d, d / Nat.gcd n d⟩ := if_neg g
  rw [e]
  obtain ⟨n', hn⟩ := Nat.gcd_dvd_left n d
  obtain ⟨d', hd⟩ := Nat.gcd_dvd_right n d
  have hg : 0 < Nat.gcd n d := Nat.gcd_pos_of_pos_right _ h
  have e1 : n / Nat.gcd n d = n' := by
   conv => lhs; lhs; rw [hn]
   exact Nat.mul_div_cancel_left _ hg
  have e2 : d / Nat.gcd n d = d' := by
   conv => lhs; lhs; rw [hd]
   exact Nat.mul_div_cancel_left _ hg
  rw [e1, e2]
  generalize Nat.gcd n d = k at *
  have hd' : 0 < d' := by
   rcases Nat.eq_zero_or_pos d' with h0 | h0
   ·rw [h0, Nat.mul_zero] at hd; omega
   ·exact h0
  refine RV.of ⟨hd', fun h0 => ?_⟩ h 0 0 (by omega) ?_
  ·have h0' : n' = 0 := h0
   rw [h0', Nat.mul_zero] at hn
   exact absurd hn g
  ·show sz neg n' * (d : Int) * 1 = sz neg n * (d' : Int) * 1
   rw [hn, hd, Nat.mul_comm k n', sz_mul, Int.natCast_mul]
   grind
def rAdd (a b : Rt) : Rt :=
 if a.neg = b.neg then mkR a.neg (a.n * b.d + b.n * a.d) (a.d * b.d)
 else if b.n * a.d ≤ a.n * b.d then mkR a.neg (a.n * b.d - b.n * a.d) (a.d * b.d) else mkR b.neg (b.n * a.d - a.n * b.d) (a.d * b.d)
def rNeg (a : Rt) : Rt := if a.n = 0 then a else ⟨!a.neg, a.n, a.d⟩
def rAbs (a : Rt) : Rt := ⟨false, a.n, a.d⟩
def rSub (a b : Rt) : Rt := rAdd a (rNeg b)
def rMul (a b : Rt) : Rt := mkR (a.neg != b.neg) (a.n * b.n) (a.d * b.d)
def rQuo (a b : Rt) : Rt := mkR (a.neg != b.neg) (a.n * b.d) (a.d * b.n)
def rSg (r : Rt) : Int := if r.n = 0 then 0 else if r.neg = true then -1 else 1
def rCmp (a b : Rt) : Int := if rSg a = rSg b then rSg a * (if a.n * b.d < b.n * a.d then -1 else if a.n * b.d = b.n * a.d then 0 else 1) else if rSg a < rSg b then -1 else 1
def rScale (r : Rt) (k : Int) : Rt :=
 if r.n = 0 then r else if 0 ≤ k then ⟨r.neg, r.n * 2 ^ (k.toNat - min (tz r.d) k.toNat), r.d / 2 ^ (min (tz r.d) k.toNat)⟩
 else ⟨r.neg, r.n / 2 ^ (min (tz r.n) (-k).toNat), r.d * 2 ^ ((-k).toNat - min (tz r.n) (-k).toNat)⟩
theorem rAdd_z (a b : Rt) : ∃ s n, rAdd a b = mkR s n (a.d * b.d) ∧ sz s n = a.z * (b.d : Int) + b.z * (a.d : Int) ∧ n ≤ a.n * b.d + b.n * a.d := by
 unfold rAdd
 have h1 : ((a.n * b.d : Nat) : Int) = (a.n : Int) * (b.d : Int) := Int.natCast_mul _ _
 have h2 : ((b.n * a.d : Nat) : Int) = (b.n : Int) * (a.d : Int) := Int.natCast_mul _ _
 obtain ⟨an, x, xd⟩ := a
 obtain ⟨bn, y, yd⟩ := b
 dsimp only at *
 generalize x * yd = X at *
 generalize y * xd = Y at *
 have hx : Rt.z ⟨an, x, xd⟩ * (yd : Int) = sz an X := by
  cases an
  ·exact h1.symm
  ·show -(x : Int) * _ = -(X : Int); rw [h1, Int.neg_mul]
 have hy : Rt.z ⟨bn, y, yd⟩ * (xd : Int) = sz bn Y := by
  cases bn
  ·exact h2.symm
  ·show -(y : Int) * _ = -(Y : Int); rw [h2, Int.neg_mul]
 rw [hx, hy]
 by_cases g : an = bn
 ·subst g
  rw [if_pos rfl]
  refine ⟨_, _, rfl, ?_, Nat.le_refl _⟩
  cases an <;> (unfold sz; simp; try omega)
 ·rw [if_neg g]
  by_cases g2 : Y ≤ X
  ·rw [if_pos g2]
   refine ⟨_, _, rfl, ?_, by omega⟩
   cases an <;> cases bn <;> first | exact absurd rfl g | (unfold sz; simp; omega)
  ·rw [if_neg g2]
   refine ⟨_, _, rfl, ?_, by omega⟩
   cases an <;> cases bn <;> first | exact absurd rfl g | (unfold sz; simp; omega)
theorem RV.add {a b : Rt} {x y : Int} {k m : Nat} {e : Int} (ha : RV a x k e) (hb : RV b y m e) : RV (rAdd a b) (x * (m : Int) + y * (k : Int)) (k * m) e := by
 obtain ⟨s, n, h1, h2, _⟩ := rAdd_z a b
 rw [h1]
 have h3 := mkR_rv s (n := n) (Nat.mul_pos ha.ok.d0 hb.ok.d0)
 rw [h2] at h3
 have ea := ha.eq e.toNat (-e).toNat (by omega)
 have eb := hb.eq e.toNat (-e).toNat (by omega)
 refine h3.to (Nat.mul_pos ha.d0 hb.d0) (-e).toNat e.toNat (by omega) ?_
 rw [Int.natCast_mul, Int.natCast_mul]
 generalize ((2 ^ e.toNat : Nat) : Int) = A at *
 generalize ((2 ^ (-e).toNat : Nat) : Int) = B at *
 grind
theorem rNeg_z {a : Rt} (h : a.Ok) : (rNeg a).z = -a.z ∧ (rNeg a).d = a.d ∧ (rNeg a).Ok ∧ (rNeg a).n = a.n := by
 unfold rNeg
 by_cases g : a.n = 0
 ·rw [if_pos g]
  refine ⟨?_, rfl, h, rfl⟩
  unfold Rt.z
  rw [g, sz_zero]; rfl
 ·rw [if_neg g]
  refine ⟨?_, rfl, ⟨h.d0, fun h0 => absurd h0 g⟩, rfl⟩
  unfold Rt.z
  cases a.neg <;> simp [sz]
theorem RV.neg {a : Rt} {x : Int} {k : Nat} {e : Int} (ha : RV a x k e) : RV (rNeg a) (-x) k e := by
 obtain ⟨h1, h2, h3, _⟩ := rNeg_z ha.ok
 refine ⟨h3, ha.d0, fun i j h => ?_⟩
 rw [h1, h2]
 have := ha.eq i j h
 grind
theorem RV.sub {a b : Rt} {x y : Int} {k m : Nat} {e : Int} (ha : RV a x k e) (hb : RV b y m e) : RV (rSub a b) (x * (m : Int) - y * (k : Int)) (k * m) e := by
 have := ha.add hb.neg
 rwa [Int.neg_mul, ← Int.sub_eq_add_neg] at this
theorem sz_xor (a b : Bool) (n m : Nat) : sz (a != b) (n * m) = sz a n * sz b m := by
 have h := Int.natCast_mul n m
 cases a <;> cases b <;> simp [sz] <;> grind
theorem RV.mul {a b : Rt} {x y : Int} {k m : Nat} {e f : Int} (ha : RV a x k e) (hb : RV b y m f) : RV (rMul a b) (x * y) (k * m) (e + f) := by
 have h3 := mkR_rv (a.neg != b.neg) (n := a.n * b.n) (Nat.mul_pos ha.ok.d0 hb.ok.d0)
 rw [sz_xor] at h3
 have ea := ha.eq e.toNat (-e).toNat (by omega)
 have eb := hb.eq f.toNat (-f).toNat (by omega)
 refine h3.to (Nat.mul_pos ha.d0 hb.d0) ((-e).toNat + (-f).toNat) (e.toNat + f.toNat) (by omega) ?_
 rw [Int.natCast_mul, Int.natCast_mul, p2_add, p2_add]
 unfold Rt.z at ea eb
 generalize ((2 ^ e.toNat : Nat) : Int) = A at *
 generalize ((2 ^ (-e).toNat : Nat) : Int) = B at *
 generalize ((2 ^ f.toNat : Nat) : Int) = C at *
 generalize ((2 ^ (-f).toNat : Nat) : Int) = D at *
 generalize sz a.neg a.n = u at *
 generalize sz b.neg b.n = v at *
 have e1 : u * v * ((k : Int) * (m : Int)) * (B * D) = (u * (k : Int) * B) * (v * (m : Int) * D) := by grind
 rw [e1, ea, eb]
 grind
theorem RV.quo {a b : Rt} {bn : Bool} {x : Int} {y k m : Nat} {e f : Int} (ha : RV a x k e) (hb : RV b (sz bn y) m f) (hy : 0 < y) : RV (rQuo a b) (sz bn 1 * x * (m : Int)) (k * y) (e - f) := by
 have hbz := hb.eq f.toNat (-f).toNat (by omega)
 have hbp := hb.pos
 have p1 := p2_pos f.toNat
 have p2 := p2_pos (-f).toNat
 have hn : 0 < b.n := by
  rcases Nat.eq_zero_or_pos b.n with h0 | h0
  ·have hz : b.z = 0 := by unfold Rt.z; rw [h0, sz_zero]
   rw [hz, Int.zero_mul, Int.zero_mul] at hbz
   have hy2 : (0 : Int) < (y : Int) := by omega
   have hpp := Int.mul_pos (Int.mul_pos hy2 hbp.1) p1
   cases bn
   ·have h9 : sz false y = (y : Int) := rfl
    rw [h9] at hbz; omega
   ·have h9 : sz true y = -(y : Int) := rfl
    rw [h9, Int.neg_mul, Int.neg_mul] at hbz; omega
  ·exact h0
 have h3 := mkR_rv (a.neg != b.neg) (n := a.n * b.d) (Nat.mul_pos ha.ok.d0 hn)
 have e0 : sz (a.neg != b.neg) (a.n * b.d) = a.z * sz b.neg 1 * (b.d : Int) := by
  rw [sz_mul, show a.n = a.n * 1 by omega, sz_xor]; simp [Rt.z]
 rw [e0] at h3
 have ea := ha.eq e.toNat (-e).toNat (by omega)
 refine h3.to (Nat.mul_pos ha.d0 hy) ((-e).toNat + f.toNat) (e.toNat + (-f).toNat) (by omega) ?_
 -- the signs agree
 have hs : b.neg = bn := by
  have hn2 : (0 : Int) < (b.n : Int) := by omega
  have hy2 : (0 : Int) < (y : Int) := by omega
  have q1 := Int.mul_pos (Int.mul_pos hn2 hbp.2) p2
  have q2 := Int.mul_pos (Int.mul_pos hy2 hbp.1) p1
  unfold Rt.z at hbz
  have h9 : ∀ w, sz true w = -(w : Int) := fun _ => rfl
  have h8 : ∀ w, sz false w = (w : Int) := fun _ => rfl
  generalize ((2 ^ f.toNat : Nat) : Int) = C at *
  generalize ((2 ^ (-f).toNat : Nat) : Int) = D at *
  cases hb1 : b.neg <;> cases bn <;> first | rfl | (exfalso; rw [hb1] at hbz; rw [h8, h9, Int.neg_mul, Int.neg_mul] at hbz; omega) | (exfalso; rw [hb1] at hbz; rw [h9, h8, Int.neg_mul, Int.neg_mul] at hbz; omega)
 have hbn : (b.n : Int) * (m : Int) * ((2 ^ (-f).toNat : Nat) : Int) = (y : Int) * (b.d : Int) * ((2 ^ f.toNat : Nat) : Int) := by
  unfold Rt.z at hbz
  rw [hs] at hbz
  cases bn
  ·exact hbz
  ·have h9 : ∀ w, sz true w = -(w : Int) := fun _ => rfl
   rw [h9, h9] at hbz
   simp only [Int.neg_mul] at hbz
   exact Int.neg_inj.1 hbz
 rw [hs, Int.natCast_mul, Int.natCast_mul, p2_add, p2_add]
 generalize ((2 ^ e.toNat : Nat) : Int) = A at *
 generalize ((2 ^ (-e).toNat : Nat) : Int) = B at *
 generalize ((2 ^ f.toNat : Nat) : Int) = C at *
 generalize ((2 ^ (-f).toNat : Nat) : Int) = D at *
 have e1 : a.z * sz bn 1 * (b.d : Int) * ((k : Int) * (y : Int)) * (B * C) = sz bn 1 * (a.z * (k : Int) * B) * ((y : Int) * (b.d : Int) * C) := by grind
 rw [e1, ea, ← hbn]
 grind
theorem rSg_z (a : Rt) : (a.z < 0 ∧ rSg a = -1) ∨ (a.z = 0 ∧ rSg a = 0) ∨ (0 < a.z ∧ rSg a = 1) := by
 unfold rSg Rt.z
 by_cases g : a.n = 0
 ·rw [if_pos g, g, sz_zero]; exact .inr (.inl ⟨rfl, rfl⟩)
 ·rw [if_neg g]
  cases h : a.neg
  ·refine .inr (.inr ⟨?_, by simp⟩); show 0 < (a.n : Int); omega
  ·refine .inl ⟨?_, by simp⟩; show -(a.n : Int) < 0; omega
theorem cross_lt {p q X Y m n : Int} (h : X * m = p * n) (h' : Y * m = q * n) (hm : 0 < m) (hn : 0 < n) : (X < Y ↔ p < q) ∧ (X = Y ↔ p = q) := by
 have e : (X - Y) * m = (p - q) * n := by rw [Int.sub_mul, Int.sub_mul, h, h']
 rcases Int.lt_trichotomy X Y with g | g | g
 ·have h1 : (X - Y) * m < 0 := Int.mul_neg_of_neg_of_pos (by omega) hm
  have h2 : p < q := by
   rcases Decidable.em (p < q) with w | w
   ·exact w
   ·have : 0 ≤ (p - q) * n := Int.mul_nonneg (by omega) (by omega)
    omega
  omega
 ·subst g
  rw [Int.sub_self, Int.zero_mul] at e
  rcases Int.mul_eq_zero.1 e.symm with w | w <;> omega
 ·have h1 : 0 < (X - Y) * m := Int.mul_pos (by omega) hm
  have h2 : q < p := by
   rcases Decidable.em (q < p) with w | w
   ·exact w
   ·have : (p - q) * n ≤ 0 := Int.mul_nonpos_of_nonpos_of_nonneg (by omega) (by omega)
    omega
  omega
theorem RV.sg {a : Rt} {x : Int} {k : Nat} {e : Int} (ha : RV a x k e) : (x < 0 ∧ rSg a = -1) ∨ (x = 0 ∧ rSg a = 0) ∨ (0 < x ∧ rSg a = 1) := by
 have ea := ha.eq e.toNat (-e).toNat (by omega)
 have hpa := ha.pos
 have p1 := p2_pos e.toNat
 have p2 := p2_pos (-e).toNat
 have hc := rSg_z a
 generalize rSg a = v at *
 generalize ((2 ^ e.toNat : Nat) : Int) = A at *
 generalize ((2 ^ (-e).toNat : Nat) : Int) = B at *
 have h := cross_lt (p := x) (q := 0) (X := a.z) (Y := 0) (m := (k : Int) * B) (n := (a.d : Int) * A) (by grind) (by simp) (Int.mul_pos hpa.2 p2) (Int.mul_pos hpa.1 p1)
 have h' := cross_lt (p := 0) (q := x) (X := 0) (Y := a.z) (m := (k : Int) * B) (n := (a.d : Int) * A) (by simp) (by grind) (Int.mul_pos hpa.2 p2) (Int.mul_pos hpa.1 p1)
 omega
end Go.VM
namespace Go.Proofs.YtcafgpconlkecaaGreatDoor
open Go.VM

def beh (P R : Nat) : Nat := if P % R = 0 then 0 else if 2 * (P % R) < R then 1 else if 2 * (P % R) = R then 2 else 3
def upB (mode : Int) (neg : Bool) (Q b : Nat) : Bool := if mode = 0 then neg && decide (0 < b) else if mode = 1 then !neg && decide (0 < b) else decide (b = 3) || (decide (b = 2) && decide (Q % 2 = 1))
def rndU (mode : Int) (neg : Bool) (Q b : Nat) : Nat := Q + (if upB mode neg Q b = true then 1 else 0)
def rnd (mode : Int) (neg : Bool) (P R : Nat) : Nat := rndU mode neg (P / R) (beh P R)
theorem rndU_le (mode : Int) (neg : Bool) (Q b : Nat) : rndU mode neg Q b ≤ Q + 1 := by unfold rndU; split <;> omega
def oneQ : Rt := ⟨false, 1, 1⟩
theorem up0 (neg : Bool) (Q b : Nat) : upB 0 neg Q b = (neg && decide (0 < b)) := if_pos rfl
theorem up1 (neg : Bool) (Q b : Nat) : upB 1 neg Q b = (!neg && decide (0 < b)) := rfl
theorem up2 (neg : Bool) (Q b : Nat) : upB 2 neg Q b = (decide (b = 3) || (decide (b = 2) && decide (Q % 2 = 1))) := rfl
structure Sides (neg : Bool) (P R : Nat) : Prop where
 lo : sz neg (rnd 0 neg P R) * (R : Int) ≤ sz neg P
 hi : sz neg P ≤ sz neg (rnd 1 neg P R) * (R : Int)
 near : sz neg (rnd 2 neg P R) = sz neg (rnd 0 neg P R) ∨ sz neg (rnd 2 neg P R) = sz neg (rnd 1 neg P R)
 half : (sz neg (rnd 2 neg P R) * (R : Int) - sz neg P).natAbs * 2 ≤ R
 gap : (sz neg (rnd 0 neg P R) * (R : Int) = sz neg P ∧ sz neg (rnd 1 neg P R) = sz neg (rnd 0 neg P R)) ∨ (sz neg (rnd 0 neg P R) * (R : Int) ≠ sz neg P ∧ sz neg (rnd 1 neg P R) = sz neg (rnd 0 neg P R) + 1)
structure SidesR (l h n q : Rt) (pos : Int) : Prop where
 lo : rCmp l q = -1 ∨ rCmp l q = 0
 hi : rCmp q h = -1 ∨ rCmp q h = 0
 near : rCmp n l = 0 ∨ rCmp n h = 0
 half : rCmp (rScale (rAbs (rSub n q)) (1 - pos)) oneQ = -1 ∨ rCmp (rScale (rAbs (rSub n q)) (1 - pos)) oneQ = 0
 gap : (rCmp l q = 0 ∧ rSg (rScale (rSub h l) (-pos)) = 0) ∨ (rCmp l q = -1 ∧ rCmp (rScale (rSub h l) (-pos)) oneQ = 0)

theorem minus_st {x y o : Nat} (hx : x < 18446744073709551616) (hy : y < 18446744073709551616) (ho : o ≤ 1) (b : Nat) (hb : (x < y ∨ (x = y ∧ o = 1)) ∧ b = 1 ∨ ¬ (x < y ∨ (x = y ∧ o = 1)) ∧ b = 0) :
  ((x + (18446744073709551616 - y % 18446744073709551616)) % 18446744073709551616 + (18446744073709551616 - o % 18446744073709551616)) % 18446744073709551616 + y + o = x + 18446744073709551616 * b ∧ ((x + (18446744073709551616 - y % 18446744073709551616)) % 18446744073709551616 + (18446744073709551616 - o % 18446744073709551616)) % 18446744073709551616 < 18446744073709551616 := by omega
theorem rminus_spec (t u : Tok) (a b : List Nat) (c : Nat) (ha : Lim 18446744073709551616 a) (hb : Lim 18446744073709551616 b) (hna : a.length ≤ 1099511627776) (hne : a ≠ []) (hnb : b.length ≤ a.length) (hle : val 18446744073709551616 b ≤ val 18446744073709551616 a) :
  VSpec Tryz.prog F.q_minus c [nats t a, nats u b] (fun r c' => NatR c c' (val 18446744073709551616 a - val 18446744073709551616 b) r) := by
 refine sG hm G.q_minus ?_
 unfold C.q_minus R.q_minus cD
 refine xR ?_
 refine s_app0 (t := t) (l := a) yS yS (by omega) (fun e => absurd e hne) (fun _ => ?_)
 refine xR ?_
 refine v_loop (fun S => ∃ w, w.length = a.length ∧ Lim 18446744073709551616 w ∧ val 18446744073709551616 w = val 18446744073709551616 a - val 18446744073709551616 b ∧ S.ρ 5 = .buf c 0 a.length none 1 ∧ S.σ = supd noBlk c (nblk w) ∧ c + 1 ≤ S.c) ?_ ?_
 ·refine vwp_loop (fun k S => ∃ i w o, k = a.length - i ∧ i ≤ a.length ∧ w.length = i ∧ Lim 18446744073709551616 w ∧ o ≤ 1 ∧ val 18446744073709551616 w + val 18446744073709551616 (b.take i) = val 18446744073709551616 (a.take i) + 18446744073709551616 ^ i * o ∧ S.ρ 1 = nats u b ∧ S.ρ 13 = iv (a.length : Int) ∧ S.ρ 6 = nv o ∧ S.ρ 14 = iv (i : Int) ∧ S.ρ 5 = .buf c 0 a.length none 1 ∧ S.σ = supd noBlk c (nblk (w ++ a.drop i)) ∧ c + 1 ≤ S.c) a.length ?_ ?_
  ·refine ⟨0, [], 0, by omega, by omega, ?_⟩
   refine xS ?_
   (repeat' apply And.intro) <;> first | rfl | omega | assumption | exact Lim.nil | (simp [val]; done)
  rintro k ⟨ρ2, σ, c4⟩ ⟨i, w, o, hk, hi, hw, hlw, ho, hinv, h1, h13, h6, h14, h5, hσ, hc4⟩
  dsimp only at h1 h13 h6 h14 h5 hσ hc4
  subst hσ
  by_cases g : (i : Int) < a.length
  ·have hi' : i < a.length := by omega
   have hxi := ha.getD (i := i) (by decide)
   have hyi := hb.getD (i := i) (by decide)
   have hax := val_take' 18446744073709551616 a i
   have hbx := val_take' 18446744073709551616 b i
   have hdr := drop_at (l := a) (i := i) (by omega)
   have hlen : (w ++ a.drop i).length = a.length := by simp; omega
   have hget : (w ++ a.drop i).getD i 0 = a.getD i 0 := by rw [hdr, ← hw]; exact getD_at _ _ _
   have hset : ∀ v, (w ++ a.drop i).set i v = (w ++ [v]) ++ a.drop (i + 1) := fun v => by
    rw [hdr]
    conv => lhs; rw [← hw]
    rw [set_at, hw]; simp
   have hib : i < b.length ∨ b.getD i 0 = 0 := by
    rcases Nat.lt_or_ge i b.length with h | h
    ·exact .inl h
    ·exact .inr (getD_ge h)
   -- the next borrow
   have hfin : ∀ d q, d + b.getD i 0 + o = a.getD i 0 + 18446744073709551616 * q → val 18446744073709551616 (w ++ [d]) + val 18446744073709551616 (b.take (i + 1)) = val 18446744073709551616 (a.take (i + 1)) + 18446744073709551616 ^ (i + 1) * q := fun d q hd => by
    have key := sub_step (b := 18446744073709551616) hw hinv hd
    rwa [← hax, ← hbx] at key
   clear hax hbx hinv hdr
   by_cases gy : (i : Int) < b.length
   ·have gy' : i < b.length := by omega
    generalize a.getD i 0 = x at *
    obtain ⟨y, hyv⟩ : ∃ y, b.getD i 0 = y := ⟨_, rfl⟩
    rw [hyv] at hfin hyi
    by_cases g1 : x < y
    ·obtain ⟨d1, d2⟩ := minus_st hxi hyi ho 1 (.inl ⟨.inl g1, rfl⟩)
     refine xRF (jn h1 (jn h13 (jn h6 (jn h14 (jn h5 (jn g (jn gy (jn hyv (jn hlen (jn hget (jn hset g1))))))))))) ?_
     exact ⟨a.length - (i + 1), by omega, i + 1, _, 1, rfl, by omega, by simp [hw], lim_snoc hlw d2, by omega, hfin _ _ d1, yE⟩
    ·by_cases g2 : x = y
     ·by_cases g3 : o = 1
      ·obtain ⟨d1, d2⟩ := minus_st hxi hyi ho 1 (.inl ⟨.inr ⟨g2, g3⟩, rfl⟩)
       subst g2 g3
       refine xRF (jn h1 (jn h13 (jn h6 (jn h14 (jn h5 (jn g (jn gy (jn hyv (jn hlen (jn hget (jn hset g1))))))))))) ?_
       exact ⟨a.length - (i + 1), by omega, i + 1, _, 1, rfl, by omega, by simp [hw], lim_snoc hlw d2, by omega, hfin _ _ d1, yE⟩
      ·obtain ⟨d1, d2⟩ := minus_st hxi hyi ho 0 (.inr ⟨by omega, rfl⟩)
       subst g2
       refine xRF (jn h1 (jn h13 (jn h6 (jn h14 (jn h5 (jn g (jn gy (jn hyv (jn hlen (jn hget (jn hset (jn g1 g3)))))))))))) ?_
       exact ⟨a.length - (i + 1), by omega, i + 1, _, 0, rfl, by omega, by simp [hw], lim_snoc hlw d2, by omega, hfin _ _ d1, yE⟩
     ·obtain ⟨d1, d2⟩ := minus_st hxi hyi ho 0 (.inr ⟨by omega, rfl⟩)
      refine xRF (jn h1 (jn h13 (jn h6 (jn h14 (jn h5 (jn g (jn gy (jn hyv (jn hlen (jn hget (jn hset (jn g1 g2)))))))))))) ?_
      exact ⟨a.length - (i + 1), by omega, i + 1, _, 0, rfl, by omega, by simp [hw], lim_snoc hlw d2, by omega, hfin _ _ d1, yE⟩
   ·have hy0 : b.getD i 0 = 0 := hib.resolve_left (by omega)
    rw [hy0] at hfin hyi
    generalize a.getD i 0 = x at *
    have g1 : ¬ x < 0 := by omega
    by_cases g2 : x = 0
    ·by_cases g3 : o = 1
     ·obtain ⟨d1, d2⟩ := minus_st hxi hyi ho 1 (.inl ⟨.inr ⟨g2, g3⟩, rfl⟩)
      subst g2 g3
      refine xRF (jn h1 (jn h13 (jn h6 (jn h14 (jn h5 (jn g (jn gy (jn hlen (jn hget (jn hset g1)))))))))) ?_
      exact ⟨a.length - (i + 1), by omega, i + 1, _, 1, rfl, by omega, by simp [hw], lim_snoc hlw d2, by omega, hfin _ _ d1, yE⟩
     ·obtain ⟨d1, d2⟩ := minus_st hxi hyi ho 0 (.inr ⟨by omega, rfl⟩)
      subst g2
      refine xRF (jn h1 (jn h13 (jn h6 (jn h14 (jn h5 (jn g (jn gy (jn hlen (jn hget (jn hset (jn g1 g3))))))))))) ?_
      exact ⟨a.length - (i + 1), by omega, i + 1, _, 0, rfl, by omega, by simp [hw], lim_snoc hlw d2, by omega, hfin _ _ d1, yE⟩
    ·obtain ⟨d1, d2⟩ := minus_st hxi hyi ho 0 (.inr ⟨by omega, rfl⟩)
     refine xRF (jn h1 (jn h13 (jn h6 (jn h14 (jn h5 (jn g (jn gy (jn hlen (jn hget (jn hset (jn g1 g2))))))))))) ?_
     exact ⟨a.length - (i + 1), by omega, i + 1, _, 0, rfl, by omega, by simp [hw], lim_snoc hlw d2, by omega, hfin _ _ d1, yE⟩
  ·have hi' : i = a.length := by omega
   subst hi'
   refine xRF (jn h1 (jn h13 (jn h6 (jn h14 (jn h5 g))))) ?_
   rw [List.take_of_length_le (l := a) (by omega), List.take_of_length_le (l := b) (by omega)] at hinv
   refine ⟨w, ?_⟩
   have e0 : w ++ a.drop a.length = w := by simp
   rw [e0]
   have hwl := val_lt hlw
   rw [hw] at hwl
   have hc0 : o = 0 := by
    rcases Nat.eq_zero_or_pos o with h | h
    ·exact h
    ·have : o = 1 := by omega
     rw [this, Nat.mul_one] at hinv
     omega
   rw [hc0, Nat.mul_zero, Nat.add_zero] at hinv
   exact yA
 rintro ⟨ρ3, σ, c5⟩ ⟨w, hw, hlw, hvw, h5, hσ, hc5⟩
 dsimp only at h5 hσ hc5
 subst hσ
 refine v_freeze 5 (t := c) (off := 0) (n := a.length) (cap := none) (l := w) (ySF h5) yS (by omega) (by omega) ?_
 rw [List.drop_zero, show w.take a.length = w from List.take_of_length_le (by omega)]
 refine xR ?_
 refine s_call (norm_spec (.id c) w c5 hlw (by omega)) yM ?_
 rintro v c6 hc6 ⟨tk, rfl, htk⟩
 rw [hvw]
 refine xR ?_
 exact ⟨tk, rfl, htk.mono (by omega) (by omega)⟩

theorem start_4 {a b c d e : V} {l : List V} : VM.start (a :: b :: c :: d :: e :: l) 4 = e := rfl
theorem start_5 {a b c d e f : V} {l : List V} : VM.start (a :: b :: c :: d :: e :: f :: l) 5 = f := rfl
abbrev fnQ (f : FuncId) : V := .lit (.func (.func f) #[] #[])
theorem way1_spec (neg : Bool) (y : V) (b c : Nat) : VSpec Tryz.prog F.q_way_1 c [bv neg, y, iv (b : Int)] (fun r _ => r = bv (upB 0 neg 0 b)) := by
 refine sG hm G.q_way_1 ?_
 unfold C.q_way_1 R.q_way_1 cD
 rw [up0]
 cases neg
 ·refine xR ?_
  exact yE
 ·by_cases g : (0 : Int) < (b : Int)
  ·have g' : 0 < b := by omega
   refine xRF g ?_
   rw [decide_eq_true g']
   exact yE
  ·have g' : ¬ 0 < b := by omega
   refine xRF g ?_
   rw [decide_eq_false g']
   exact yE
theorem way2_spec (neg : Bool) (y : V) (b c : Nat) : VSpec Tryz.prog F.q_way_2 c [bv neg, y, iv (b : Int)] (fun r _ => r = bv (upB 1 neg 0 b)) := by
 refine sG hm G.q_way_2 ?_
 unfold C.q_way_2 R.q_way_2 cD
 rw [up1]
 cases neg
 ·by_cases g : (0 : Int) < (b : Int)
  ·have g' : 0 < b := by omega
   refine xRF g ?_
   rw [decide_eq_true g']
   exact yE
  ·have g' : ¬ 0 < b := by omega
   refine xRF g ?_
   rw [decide_eq_false g']
   exact yE
 ·refine xR ?_
  exact yE
theorem way3_spec (neg : Bool) (t : Tok) (l : List Nat) (b c : Nat) (hl : Lim 18446744073709551616 l) (hn : l.length ≤ 1099511627776) : VSpec Tryz.prog F.q_way_3 c [bv neg, nats t l, iv (b : Int)] (fun r _ => r = bv (upB 2 neg (val 18446744073709551616 l) b)) := by
 refine sG hm G.q_way_3 ?_
 unfold C.q_way_3 R.q_way_3 cD
 rw [up2]
 by_cases g : b = 3
 ·subst g
  refine zR ?_
  exact yE
 ·rw [decide_eq_false g]
  by_cases g2 : b = 2
  ·subst g2
   refine zR ?_
   refine s_call (bit0_spec t l c hl hn) wS ?_
   rintro v c1 hc1 rfl
   by_cases g3 : val 18446744073709551616 l % 2 = 1
   ·have g4 : ((val 18446744073709551616 l % 2 : Nat) : Int) = 1 := by omega
    refine zRF g4 ?_
    rw [decide_eq_true g3]
    exact yE
   ·have g4 : ¬ ((val 18446744073709551616 l % 2 : Nat) : Int) = 1 := by omega
    refine zRF g4 ?_
    rw [decide_eq_false g3]
    exact yE
  ·have q1 : ¬ (b : Int) = 3 := by omega
   have q2 : ¬ (b : Int) = 2 := by omega
   rw [decide_eq_false g2]
   refine xRF (jn q1 q2) ?_
   exact yE
def wayF (mode : Int) : FuncId := if mode = 0 then F.q_way_1 else if mode = 1 then F.q_way_2 else F.q_way_3
theorem way_spec (mode : Int) (hmo : mode = 0 ∨ mode = 1 ∨ mode = 2) (c : Nat) : VSpec Tryz.prog F.q_way c [iv mode] (fun r _ => r = fnQ (wayF mode)) := by
 refine sG hm G.q_way ?_
 unfold C.q_way R.q_way cD
 rcases hmo with rfl | rfl | rfl
 ·have e : wayF 0 = F.q_way_1 := rfl
  rw [e]
  refine zR ?_
  exact yE
 ·have e : wayF 1 = F.q_way_2 := rfl
  rw [e]
  refine zR ?_
  exact yE
 ·have e : wayF 2 = F.q_way_3 := rfl
  rw [e]
  refine zR ?_
  exact yE
theorem wayF_ex (mode : Int) : ∃ fn b, Tryz.prog.funcs[wayF mode]? = some fn ∧ (fn.name == "runtime.NumGoroutine") = false ∧ fn.body = some b := by
 unfold wayF
 split
 ·exact ⟨_, _, G.q_way_1.e, by kernel_rfl, G.q_way_1.b⟩
 ·split
  ·exact ⟨_, _, G.q_way_2.e, by kernel_rfl, G.q_way_2.b⟩
  ·exact ⟨_, _, G.q_way_3.e, by kernel_rfl, G.q_way_3.b⟩
theorem wayF_spec (mode : Int) (hm : mode = 0 ∨ mode = 1 ∨ mode = 2) (neg : Bool) (t : Tok) (l : List Nat) (b c : Nat) (hl : Lim 18446744073709551616 l) (hn : l.length ≤ 1099511627776) :
  VSpec Tryz.prog (wayF mode) c [bv neg, nats t l, iv (b : Int)] (fun r _ => r = bv (upB mode neg (val 18446744073709551616 l) b)) := by
 rcases hm with rfl | rfl | rfl
 ·exact way1_spec neg _ b c
 ·exact way2_spec neg _ b c
 ·exact way3_spec neg t l b c hl hn
def AnsQ (c c' : Nat) (d : Dy) (r : V) : Prop := ∃ tk, r = .tup [dyV tk d, iv 0] ∧ Tk c c' tk
theorem AnsQ.mono {a b c d : Nat} {x : Dy} {r : V} (h : AnsQ a b x r) (h1 : c ≤ a) (h2 : b ≤ d) : AnsQ c d x r := by
 obtain ⟨t, h, ht⟩ := h
 exact ⟨t, h, ht.mono h1 h2⟩

theorem v_cut3 {P : Program} {c0 : Nat} {S : VS} {Q0 : VEx → VS → Prop} {a b d y : VC} (M : VS → Prop) (h1 : VWP P c0 a (thenQ P c0 b (thenQ P c0 d fun e S => e = .normal ∧ M S)) S) (h2 : ∀ S, M S → VWP P c0 y Q0 S) : VWP P c0 (.seq a (.seq b (.seq d y))) Q0 S := by
 refine vwp_seq (vwp_mono h1 ?_)
 intro e S' h
 cases e with
 | normal =>
  rw [thenQ_normal] at h ⊢
  refine vwp_seq (vwp_mono h ?_)
  intro e S' h
  cases e with
  | normal =>
   rw [thenQ_normal] at h ⊢
   exact v_cut M h h2
  | exit j => rw [thenQ_exit] at h; cases h.1
  | ret => rw [thenQ_ret] at h; cases h.1
 | exit j => rw [thenQ_exit, thenQ_exit] at h; cases h.1
 | ret => rw [thenQ_ret, thenQ_ret] at h; cases h.1
theorem rread_spec (neg : Bool) (t : Tok) (l : List Nat) (e : Int) (c : Nat) (hl : Arg l) (he : fitE e) :
  VSpec Tryz.prog F.q_read c [raV neg t l e] (fun r c' => AnsQ c c' (dyOf neg (val 18446744073709551616 l) e) r) := by
 refine sG hm G.q_read ?_
 unfold C.q_read R.q_read cD
 have hlen := hl.len
 have hb := hl.bl
 have hx := lim_digs two64 (val 18446744073709551616 l)
 have vx := val_digs two64 (val 18446744073709551616 l)
 have nx : (digs 18446744073709551616 (val 18446744073709551616 l)).length ≤ 1048576 := Nat.le_trans (digs_len_le two64 hl.lim) hlen
 obtain ⟨he1, he2⟩ := he
 have g1 : ¬ e < -1099511627776 := by omega
 have g2 : ¬ (1099511627776 : Int) < e := by omega
 have htz := hl.tz
 refine zRF (jn g1 g2) ?_
 refine s_call (norm_spec t l (c + 2) hl.lim (by omega)) wS ?_
 rintro v c1 hc1 ⟨t1, rfl, ht1⟩
 by_cases gz : val 18446744073709551616 l = 0
 ·have ez2 : (((List.map nv (digs 18446744073709551616 (val 18446744073709551616 l))).length / 1 : Nat) : Int) = 0 := by rw [gz]; rfl
  have ez : (((digs 18446744073709551616 (val 18446744073709551616 l)).length : Nat) : Int) = 0 := by rw [gz]; rfl
  have ed : dyOf neg (val 18446744073709551616 l) e = dy0 := if_pos gz
  rw [ed]
  refine zRF (jn ez ez2) ?_
  exact ⟨.nil, rfl, .inl rfl⟩
 ·have ez : ¬ (((digs 18446744073709551616 (val 18446744073709551616 l)).length : Nat) : Int) = 0 := by
   intro h
   exact gz ((digs_eq_nil (b := 18446744073709551616) (by decide)).1 (List.eq_nil_of_length_eq_zero (by omega)))
  have ez2 : ¬ (((List.map nv (digs 18446744073709551616 (val 18446744073709551616 l))).length / 1 : Nat) : Int) = 0 := by rw [List.length_map, Nat.div_one]; exact ez
  have ed : dyOf neg (val 18446744073709551616 l) e = ⟨neg, od (val 18446744073709551616 l), e + (tz (val 18446744073709551616 l) : Int)⟩ := if_neg gz
  rw [ed]
  refine zRF (jn ez ez2) ?_
  refine s_call (tail_spec t1 (digs 18446744073709551616 (val 18446744073709551616 l)) c1 hx (by omega)) wS ?_
  rw [vx]
  rintro v c2 hc2 rfl
  refine zR ?_
  refine s_call (rright_spec t1 (digs 18446744073709551616 (val 18446744073709551616 l)) (tz (val 18446744073709551616 l)) c2 hx (by omega) (by omega)) wS ?_
  rw [vx]
  rintro v c3 hc3 ⟨t3, rfl, ht3⟩
  refine zR ?_
  exact ⟨t3, rfl, ht3.mono (by omega) (by omega)⟩
theorem rasked_spec (pos mode : Int) (c : Nat) (hp : fitE pos) (hmo : mode = 0 ∨ mode = 1 ∨ mode = 2) : VSpec Tryz.prog F.q_asked c [iv pos, iv mode] (fun r _ => r = iv 0) := by
 refine sG hm G.q_asked ?_
 unfold C.q_asked R.q_asked cD
 obtain ⟨he1, he2⟩ := hp
 have g1 : ¬ pos < -1099511627776 := by omega
 have g2 : ¬ (1099511627776 : Int) < pos := by omega
 have g3 : ¬ mode < 0 := by omega
 have g4 : ¬ (2 : Int) < mode := by omega
 refine xRF (jn g1 (jn g2 (jn g3 g4))) ?_
 exact yE
theorem bl_sh_le' (n k : Nat) : bl (n * 2 ^ k) ≤ bl n + k := by
 by_cases h : n = 0
 ·subst h; rw [Nat.zero_mul, bl_zero]; exact Nat.zero_le _
 ·exact Nat.le_of_eq (bl_shl h)
theorem digs_ne {n : Nat} (h : 0 < n) : digs 18446744073709551616 n ≠ [] := fun e => by
 have := (digs_eq_nil (b := 18446744073709551616) (by decide)).1 e
 omega

def quoP (x y : Dy) (pos : Int) : Nat := x.m * 2 ^ (x.e - y.e - pos).toNat
def quoR (x y : Dy) (pos : Int) : Nat := y.m * 2 ^ (pos - (x.e - y.e)).toNat

theorem rplus_spec (t u : Tok) (a b : List Nat) (c : Nat) (ha : Lim 18446744073709551616 a) (hb : Lim 18446744073709551616 b) (hna : a.length ≤ 1099511627776) (hnb : b.length ≤ 1099511627776) :
  VSpec Tryz.prog F.q_plus c [nats t a, nats u b] (fun r c' => NatR c c' (val 18446744073709551616 a + val 18446744073709551616 b) r) := by
 refine sG hm G.q_plus ?_
 unfold C.q_plus R.q_plus cD
 obtain ⟨n, hn, hn1, hn2, hn3⟩ : ∃ n : Nat, max (a.length : Int) (b.length : Int) = (n : Int) ∧ a.length ≤ n ∧ b.length ≤ n ∧ n ≤ 1099511627776 := by
  by_cases g : b.length > a.length
  ·exact ⟨b.length, by omega, by omega, by omega, by omega⟩
  ·exact ⟨a.length, by omega, by omega, by omega, by omega⟩
 refine xRF hn ?_
 refine s_mk (n := n + 1) (m := n + 1) (ySrF hn) (ySrF hn) (Nat.le_refl _) (by omega) ?_
 refine xRF hn ?_
 have htot : val 18446744073709551616 a + val 18446744073709551616 b < 18446744073709551616 ^ (n + 1) := by
  have h1 : val 18446744073709551616 a < 18446744073709551616 ^ n := Nat.lt_of_lt_of_le (val_lt ha) (Nat.pow_le_pow_right (by decide) hn1)
  have h2 : val 18446744073709551616 b < 18446744073709551616 ^ n := Nat.lt_of_lt_of_le (val_lt hb) (Nat.pow_le_pow_right (by decide) hn2)
  rw [Nat.pow_succ]
  generalize 18446744073709551616 ^ n = P at *
  omega
 refine v_loop (fun S => ∃ w, w.length = n + 1 ∧ Lim 18446744073709551616 w ∧ val 18446744073709551616 w = val 18446744073709551616 a + val 18446744073709551616 b ∧ S.ρ 5 = .buf c 0 (n + 1) (some (n + 1)) 1 ∧ S.σ = supd noBlk c (nblk w) ∧ c + 1 ≤ S.c) ?_ ?_
 ·refine vwp_loop (fun k S => ∃ i w carry, k = n + 1 - i ∧ i ≤ n + 1 ∧ w.length = i ∧ Lim 18446744073709551616 w ∧ carry ≤ 1 ∧ val 18446744073709551616 w + 18446744073709551616 ^ i * carry = val 18446744073709551616 (a.take i) + val 18446744073709551616 (b.take i) ∧ S.ρ 0 = nats t a ∧ S.ρ 1 = nats u b ∧ S.ρ 18 = iv ((n + 1 : Nat) : Int) ∧ S.ρ 6 = nv carry ∧ S.ρ 19 = iv (i : Int) ∧ S.ρ 5 = .buf c 0 (n + 1) (some (n + 1)) 1 ∧ S.σ = supd noBlk c (nblk (w ++ List.replicate (n + 1 - i) 0)) ∧ c + 1 ≤ S.c) (n + 1) ?_ ?_
  ·refine ⟨0, [], 0, by omega, by omega, ?_⟩
   refine xS ?_
   (repeat' apply And.intro) <;> first | rfl | omega | assumption | exact Lim.nil | (simp [val]; done)
  rintro k ⟨ρ2, σ, c4⟩ ⟨i, w, carry, hk, hi, hw, hlw, hca, hinv, h0, h1, h18, h6, h19, h5, hσ, hc4⟩
  dsimp only at h0 h1 h18 h6 h19 h5 hσ hc4
  subst hσ
  by_cases g : (i : Int) < ((n + 1 : Nat) : Int)
  ·have hxi := ha.getD (i := i) (by decide)
   have hyi := hb.getD (i := i) (by decide)
   have hax := val_take' 18446744073709551616 a i
   have hbx := val_take' 18446744073709551616 b i
   have hlen : (w ++ List.replicate (n + 1 - i) 0).length = n + 1 := by simp; omega
   have hset : ∀ v, (w ++ List.replicate (n + 1 - i) 0).set i v = (w ++ [v]) ++ List.replicate (n + 1 - (i + 1)) 0 := fun v => by
    have := set_fill w (n + 1 - (i + 1)) v
    rw [hw] at this
    rw [show n + 1 - i = n + 1 - (i + 1) + 1 by omega, this]
   have hfin : ∀ s, s = a.getD i 0 + b.getD i 0 + carry → val 18446744073709551616 (w ++ [s % 18446744073709551616]) + 18446744073709551616 ^ (i + 1) * (s / 18446744073709551616) = val 18446744073709551616 (a.take (i + 1)) + val 18446744073709551616 (b.take (i + 1)) := fun s hs => by
    have key0 := addb_step (b := 18446744073709551616) (x := b.getD i 0) (y := a.getD i 0) (c' := s / 18446744073709551616) (d := s % 18446744073709551616) hw hinv (by have := Nat.mod_add_div s 18446744073709551616; omega)
    rwa [← hax, ← hbx] at key0
   have hqs : ∀ s, s = a.getD i 0 + b.getD i 0 + carry → s / 18446744073709551616 ≤ 1 := fun s hs => by omega
   by_cases gx : (i : Int) < a.length
   ·by_cases gy : (i : Int) < b.length
    ·refine xRF (jn h0 (jn h1 (jn h18 (jn h6 (jn h19 (jn h5 (jn g (jn gx (jn gy (jn hlen hset)))))))))) ?_
     exact ⟨n + 1 - (i + 1), by omega, i + 1, _, _, rfl, by omega, by simp [hw], lim_snoc hlw (Nat.mod_lt _ (by decide)), hqs _ rfl, hfin _ rfl, yE⟩
    ·have hy0 : b.getD i 0 = 0 := getD_ge (by omega)
     rw [hy0] at hfin hqs
     refine xRF (jn h0 (jn h1 (jn h18 (jn h6 (jn h19 (jn h5 (jn g (jn gx (jn gy (jn hlen hset)))))))))) ?_
     exact ⟨n + 1 - (i + 1), by omega, i + 1, _, _, rfl, by omega, by simp [hw], lim_snoc hlw (Nat.mod_lt _ (by decide)), hqs _ rfl, hfin _ rfl, yE⟩
   ·have hx0 : a.getD i 0 = 0 := getD_ge (by omega)
    rw [hx0] at hfin hqs
    by_cases gy : (i : Int) < b.length
    ·refine xRF (jn h0 (jn h1 (jn h18 (jn h6 (jn h19 (jn h5 (jn g (jn gx (jn gy (jn hlen hset)))))))))) ?_
     exact ⟨n + 1 - (i + 1), by omega, i + 1, _, _, rfl, by omega, by simp [hw], lim_snoc hlw (Nat.mod_lt _ (by decide)), hqs (b.getD i 0 + carry) (by omega), hfin (b.getD i 0 + carry) (by omega), yE⟩
    ·have hy0 : b.getD i 0 = 0 := getD_ge (by omega)
     rw [hy0] at hfin hqs
     refine xRF (jn h0 (jn h1 (jn h18 (jn h6 (jn h19 (jn h5 (jn g (jn gx (jn gy (jn hlen hset)))))))))) ?_
     exact ⟨n + 1 - (i + 1), by omega, i + 1, _, _, rfl, by omega, by simp [hw], lim_snoc hlw (Nat.mod_lt _ (by decide)), hqs carry (by omega), hfin carry (by omega), yE⟩
  ·have hi' : i = n + 1 := by omega
   subst hi'
   refine xRF (jn h0 (jn h1 (jn h18 (jn h6 (jn h19 (jn h5 g)))))) ?_
   rw [List.take_of_length_le (l := a) (by omega), List.take_of_length_le (l := b) (by omega)] at hinv
   refine ⟨w, ?_⟩
   have e0 : w ++ List.replicate (n + 1 - (n + 1)) 0 = w := by simp
   rw [e0]
   have hc0 : carry = 0 := by
    rcases Nat.eq_zero_or_pos carry with h | h
    ·exact h
    ·have : carry = 1 := by omega
     rw [this, Nat.mul_one] at hinv
     omega
   rw [hc0, Nat.mul_zero, Nat.add_zero] at hinv
   exact yA
 rintro ⟨ρ3, σ, c5⟩ ⟨w, hw, hlw, hvw, h5, hσ, hc5⟩
 dsimp only at h5 hσ hc5
 subst hσ
 refine v_freeze 5 (t := c) (off := 0) (n := n + 1) (cap := some (n + 1)) (l := w) (ySF h5) yS (by omega) (by omega) ?_
 rw [List.drop_zero, show w.take (n + 1) = w from List.take_of_length_le (by omega)]
 refine xR ?_
 refine s_call (norm_spec (.id c) w c5 hlw (by omega)) yM ?_
 rintro v c6 hc6 ⟨tk, rfl, htk⟩
 rw [hvw]
 refine xR ?_
 exact ⟨tk, rfl, htk.mono (by omega) (by omega)⟩
theorem rtimes_any (t u : Tok) (a b : List Nat) (c : Nat) (ha : Lim 18446744073709551616 a) (hb : Lim 18446744073709551616 b) (hna : a.length ≤ 4194304) (hnb : b.length ≤ 4194304) :
  VSpec Tryz.prog F.q_times c [nats t a, nats u b] (fun r c' => ∃ n, n ≤ val 18446744073709551616 a * val 18446744073709551616 b ∧ ∃ tk, r = nats tk (digs 18446744073709551616 n)) := by
 refine sG hm G.q_times ?_
 unfold C.q_times R.q_times cD
 refine xR ?_
 refine s_call (mul_spec t u a b c ha hb (by omega) (by omega)) yM ?_
 rintro v c1 hc1 (⟨_, tk, rfl, htk⟩ | ⟨h, rfl⟩)
 ·refine xR ?_
  exact ⟨_, Nat.le_refl _, tk, rfl⟩
 have hpl : val 18446744073709551616 a * val 18446744073709551616 b < 18446744073709551616 ^ (a.length + b.length) := by
  rw [Nat.pow_add]
  exact Nat.mul_lt_mul'' (val_lt ha) (val_lt hb)
 have hnl : ∀ n, n ≤ val 18446744073709551616 a * val 18446744073709551616 b → (digs 18446744073709551616 n).length ≤ 8388608 := fun n hn => Nat.le_trans (digs_len two64 (Nat.lt_of_le_of_lt hn hpl)) (by omega)
 have g3 : ¬ (3 : Int) = 0 := by decide
 refine xRF g3 ?_
 refine v_loop (fun S => ∃ n tk, n ≤ val 18446744073709551616 a * val 18446744073709551616 b ∧ S.ρ 7 = nats tk (digs 18446744073709551616 n) ∧ S.σ = noBlk ∧ c1 ≤ S.c) ?_ ?_
 ·refine vwp_loop (fun k S => ∃ n tk, k ≤ b.length ∧ n ≤ val 18446744073709551616 a * val 18446744073709551616 (b.drop k) ∧ S.ρ 0 = nats t a ∧ S.ρ 1 = nats u b ∧ S.ρ 7 = nats tk (digs 18446744073709551616 n) ∧ S.ρ 8 = iv ((k : Int) - 1) ∧ S.σ = noBlk ∧ c1 ≤ S.c) b.length ?_ ?_
  ·refine ⟨0, .nil, Nat.le_refl _, Nat.zero_le _, ?_⟩
   refine xS ?_
   exact yA
  rintro k ⟨ρ2, σ, c4⟩ ⟨n, tk, hk, hn, h0, h1, h7, h8, hσ, hc4⟩
  dsimp only at h0 h1 h7 h8 hσ hc4
  subst hσ
  rcases Nat.eq_zero_or_pos k with rfl | hp
  ·have g1 : ¬ (0 : Int) ≤ ((0 : Nat) : Int) - 1 := by omega
   rw [List.drop_zero] at hn
   refine xRF (jn h0 (jn h1 (jn h7 (jn h8 g1)))) ?_
   exact ⟨n, tk, hn, rfl, hc4⟩
  ·obtain ⟨i, rfl⟩ : ∃ i, k = i + 1 := ⟨k - 1, by omega⟩
   have e1 : (((i + 1 : Nat) : Int) - 1) = (i : Int) := by omega
   rw [e1] at h8
   have gi : (0 : Int) ≤ (i : Int) := by omega
   have hib : i < b.length := by omega
   have hyi := hb.getD (i := i) (by decide)
   have hd := drop_at (l := b) (i := i) hib
   have hdv : val 18446744073709551616 (b.drop i) = b.getD i 0 + 18446744073709551616 * val 18446744073709551616 (b.drop (i + 1)) := by rw [hd]; rfl
   have hle : ∀ X, X ≤ val 18446744073709551616 a * b.getD i 0 → n * 2 ^ 64 + X ≤ val 18446744073709551616 a * val 18446744073709551616 (b.drop i) := fun X hX => by
    rw [hdv, Nat.mul_add]
    have h2 := Nat.mul_le_mul_right 18446744073709551616 hn
    have h3 : val 18446744073709551616 a * val 18446744073709551616 (b.drop (i + 1)) * 18446744073709551616 = val 18446744073709551616 a * (18446744073709551616 * val 18446744073709551616 (b.drop (i + 1))) := by rw [Nat.mul_assoc, Nat.mul_comm 18446744073709551616]
    rw [h3] at h2
    have h4 : (2 : Nat) ^ 64 = 18446744073709551616 := by decide
    rw [h4]
    have h5 := Nat.add_le_add h2 hX
    rw [Nat.add_comm (val 18446744073709551616 a * b.getD i 0)]
    exact h5
   have hle0 : n * 2 ^ 64 ≤ val 18446744073709551616 a * val 18446744073709551616 (b.drop i) := by
    have h := hle 0 (Nat.zero_le _)
    rwa [Nat.add_zero] at h
   have hle2 : val 18446744073709551616 a * val 18446744073709551616 (b.drop i) ≤ val 18446744073709551616 a * val 18446744073709551616 b := Nat.mul_le_mul_left _ (by
    have := val_take_drop 18446744073709551616 i b (by omega)
    have hp := Nat.le_mul_of_pos_left (val 18446744073709551616 (b.drop i)) (Nat.pow_pos (n := i) (show 0 < 18446744073709551616 by decide))
    omega)
   have hn2 : n ≤ val 18446744073709551616 a * val 18446744073709551616 b := Nat.le_trans (Nat.le_trans (Nat.le_mul_of_pos_right n (Nat.two_pow_pos 64)) hle0) hle2
   have lN := lim_digs two64 n
   have vN := val_digs two64 n
   have nN := hnl n hn2
   refine xRF (jn h0 (jn h1 (jn h7 (jn h8 gi)))) ?_
   refine s_call (rleft_spec tk (digs 18446744073709551616 n) 64 c4 lN (by omega) (by decide)) (yMrF h7) ?_
   rw [vN]
   rintro v c5 hc5 ⟨t5, rfl, _⟩
   refine xRF (jn h0 (jn h1 h8)) ?_
   refine s_call (from_spec (b.getD i 0) c5 hyi) (yMF h1) ?_
   rintro v c6 hc6 ⟨t6, rfl, _⟩
   refine xRF (jn h0 (jn h1 h8)) ?_
   have l6 := lim_digs two64 (b.getD i 0)
   have v6 := val_digs two64 (b.getD i 0)
   have n6 : (digs 18446744073709551616 (b.getD i 0)).length ≤ 1 := digs_len two64 (by rw [Nat.pow_one]; exact hyi)
   refine s_call (mul_spec t t6 a (digs 18446744073709551616 (b.getD i 0)) c6 ha l6 (by omega) (by omega)) (yMF h0) ?_
   rw [v6]
   have l5 := lim_digs two64 (n * 2 ^ 64)
   have v5 := val_digs two64 (n * 2 ^ 64)
   have n5 := hnl (n * 2 ^ 64) (Nat.le_trans hle0 hle2)
   rintro v c7 hc7 (⟨_, t7, rfl, _⟩ | ⟨_, rfl⟩)
   ·have hX := hle _ (Nat.le_refl _)
    have l7 := lim_digs two64 (val 18446744073709551616 a * b.getD i 0)
    have v7 := val_digs two64 (val 18446744073709551616 a * b.getD i 0)
    have n7 := hnl (val 18446744073709551616 a * b.getD i 0) (Nat.le_trans (Nat.le_trans (Nat.le_add_left _ _) hX) hle2)
    refine xRF (jn h0 (jn h1 h8)) ?_
    refine s_call (rplus_spec t5 t7 (digs 18446744073709551616 (n * 2 ^ 64)) (digs 18446744073709551616 (val 18446744073709551616 a * b.getD i 0)) c7 l5 l7 (by omega) (by omega)) yM ?_
    rw [v5, v7]
    rintro v c8 hc8 ⟨t8, rfl, _⟩
    refine xRF (jn h0 (jn h1 h8)) ?_
    refine ⟨i, by omega, _, t8, by omega, hX, ?_⟩
    exact yA
   ·have hX := hle 0 (Nat.zero_le _)
    refine xRF (jn h0 (jn h1 h8)) ?_
    refine s_call (rplus_spec t5 .nil (digs 18446744073709551616 (n * 2 ^ 64)) [] c7 l5 Lim.nil (by omega) (by decide)) yMr ?_
    rw [v5, val_nil]
    rintro v c8 hc8 ⟨t8, rfl, _⟩
    refine xRF (jn h0 (jn h1 h8)) ?_
    refine ⟨i, by omega, _, t8, by omega, hX, ?_⟩
    exact yA
 rintro ⟨ρ3, σ, c5⟩ ⟨n, tk, hn, h7, hσ, hc5⟩
 dsimp only at h7 hσ hc5
 subst hσ
 refine xRF h7 ?_
 exact ⟨n, hn, tk, rfl⟩

theorem v_cut4 {P : Program} {c0 : Nat} {S : VS} {Q0 : VEx → VS → Prop} {a b d x y : VC} (M : VS → Prop) (h1 : VWP P c0 a (thenQ P c0 b (thenQ P c0 d (thenQ P c0 x fun e S => e = .normal ∧ M S))) S) (h2 : ∀ S, M S → VWP P c0 y Q0 S) : VWP P c0 (.seq a (.seq b (.seq d (.seq x y)))) Q0 S := by
 refine vwp_seq (vwp_mono h1 ?_)
 intro e S' h
 cases e with
 | normal =>
  rw [thenQ_normal] at h ⊢
  exact v_cut3 M h h2
 | exit j => rw [thenQ_exit, thenQ_exit, thenQ_exit] at h; cases h.1
 | ret => rw [thenQ_ret, thenQ_ret, thenQ_ret] at h; cases h.1
theorem v_cutQ4 {P : Program} {c0 : Nat} {S : VS} {Q0 : VEx → VS → Prop} {a b d x z y : VC} (M : VS → Prop) (h1 : VWP P c0 a (thenQ P c0 b (thenQ P c0 d (thenQ P c0 x (thenQ P c0 z fun e S => e = .normal ∧ M S)))) S) (h2 : ∀ S, M S → VWP P c0 y Q0 S) : VWP P c0 a (thenQ P c0 (.seq b (.seq d (.seq x (.seq z y)))) Q0) S := by
 refine vwp_mono h1 ?_
 intro e S' h
 cases e with
 | normal =>
  rw [thenQ_normal] at h ⊢
  exact v_cut4 M h h2
 | exit j => rw [thenQ_exit, thenQ_exit, thenQ_exit, thenQ_exit] at h; cases h.1
 | ret => rw [thenQ_ret, thenQ_ret, thenQ_ret, thenQ_ret] at h; cases h.1
theorem more_iff {x P R : Nat} (hR : 0 < R) (h : x * x ≤ P / R) : x * x * R = P ↔ P % R = 0 ∧ P / R - x ^ 2 = 0 := by
 rw [Nat.pow_two]
 have hd := Nat.div_add_mod P R
 constructor
 ·intro e
  have h1 : P / R = x * x := by rw [← e, Nat.mul_div_cancel _ hR]
  have h2 : P % R = 0 := by rw [← e]; exact Nat.mul_mod_left _ _
  exact ⟨h2, by omega⟩
 ·rintro ⟨h1, h2⟩
  have h3 : P / R = x * x := by omega
  rw [h1, h3, Nat.add_zero] at hd
  rw [Nat.mul_comm]; exact hd
def beh2 (x : Nat) (more : Bool) : Nat := if x % 2 = 1 then (if more = true then 3 else 2) else if more = true then 1 else 0
structure SqF (mode : Int) (n P R : Nat) : Prop where
 le : n ≤ P + 1
 lo : mode = 0 → 4 * (n * n) * R ≤ P ∧ P < 4 * ((n + 1) * (n + 1)) * R
 hi : mode = 1 → P ≤ 4 * (n * n) * R
theorem sq_mono {a b : Nat} (h : a ≤ b) (R : Nat) : a * a * R ≤ b * b * R := Nat.mul_le_mul_right _ (Nat.mul_le_mul h h)
theorem four_sq (n R : Nat) : 4 * (n * n) * R = 2 * n * (2 * n) * R := by
 congr 1
 rw [show 2 * n * (2 * n) = 4 * (n * n) by rw [Nat.mul_mul_mul_comm]]
theorem sqF_of {mode : Int} {x P R : Nat} {more : Bool} (hR : 0 < R) (hx : IsRoot (P / R) 2 x) (hm : more = true ↔ x * x * R ≠ P) : SqF mode (rndU mode false (x / 2) (beh2 x more)) P R := by
 obtain ⟨x1, x2⟩ := hx
 have e2 : ∀ n : Nat, n ^ 2 = n * n := fun n => Nat.pow_two n
 rw [e2] at x1 x2
 have l1 : x * x * R ≤ P := (Nat.le_div_iff_mul_le hR).1 x1
 have l2 : P < (x + 1) * (x + 1) * R := (Nat.div_lt_iff_lt_mul hR).1 x2
 have hxx : x ≤ x * x * R := by
  rcases Nat.eq_zero_or_pos x with h | h
  ·rw [h]; exact Nat.zero_le _
  ·exact Nat.le_trans (Nat.le_mul_of_pos_right x h) (Nat.le_mul_of_pos_right _ hR)
 refine ⟨?_, ?_, ?_⟩
 ·have := rndU_le mode false (x / 2) (beh2 x more)
  omega
 ·rintro rfl
  have e : rndU 0 false (x / 2) (beh2 x more) = x / 2 := by unfold rndU; rw [up0]; simp
  rw [e, four_sq, four_sq]
  refine ⟨Nat.le_trans (sq_mono (show 2 * (x / 2) ≤ x by omega) R) l1, Nat.lt_of_lt_of_le l2 (sq_mono (show x + 1 ≤ 2 * (x / 2 + 1) by omega) R)⟩
 ·rintro rfl
  by_cases g : beh2 x more = 0
  ·have e : rndU 1 false (x / 2) (beh2 x more) = x / 2 := by unfold rndU; rw [up1, g]; simp
   have hev : x % 2 = 0 ∧ ¬ more = true := by
    unfold beh2 at g
    by_cases g2 : x % 2 = 1
    ·rw [if_pos g2] at g; split at g <;> cases g
    ·rw [if_neg g2] at g
     refine ⟨by omega, fun h => ?_⟩
     rw [if_pos h] at g; cases g
   have hP : x * x * R = P := Classical.not_not.1 fun h => hev.2 (hm.2 h)
   rw [e, four_sq, show 2 * (x / 2) = x by omega]
   omega
  ·have e : rndU 1 false (x / 2) (beh2 x more) = x / 2 + 1 := by
    unfold rndU; rw [up1]
    have : 0 < beh2 x more := by omega
    simp [this]
   rw [e, four_sq]
   exact Nat.le_of_lt (Nat.lt_of_lt_of_le l2 (sq_mono (show x + 1 ≤ 2 * (x / 2 + 1) by omega) R))
def sqP (a : Dy) (pos : Int) : Nat := a.m * 2 ^ (a.e - 2 * pos + 2).toNat
def sqR (a : Dy) (pos : Int) : Nat := 2 ^ (-(a.e - 2 * pos + 2)).toNat
theorem odd_mod {m k : Nat} (hm : m % 2 = 1) (hk : 0 < k) : m % 2 ^ k ≠ 0 := by
 obtain ⟨j, rfl⟩ : ∃ j, k = j + 1 := ⟨k - 1, by omega⟩
 intro h
 have h1 := Nat.mod_mod_of_dvd m (show 2 ∣ 2 ^ (j + 1) from ⟨2 ^ j, by rw [Nat.pow_succ, Nat.mul_comm]⟩)
 rw [h] at h1
 omega
theorem isRoot_zero : IsRoot 0 2 0 := ⟨by decide, by decide⟩

def AnsE (A : Dy → Prop) (r : V) : Prop := (∃ e : Int, e ≠ 0 ∧ r = .tup [dyV .nil dy0, iv e]) ∨ ∃ d t, A d ∧ d.Ok ∧ tE d = 0 ∧ r = .tup [dyV t d, iv 0]
theorem AnsE.bad {A : Dy → Prop} {e : Int} (h : e ≠ 0) : AnsE A (.tup [dyV .nil dy0, iv e]) := .inl ⟨e, h, rfl⟩
theorem AnsE.mono {A B : Dy → Prop} {r : V} (h : AnsE A r) (hab : ∀ d, A d → B d) : AnsE B r := by
 rcases h with h | ⟨d, t, h1, h2, h3, h4⟩
 ·exact .inl h
 ·exact .inr ⟨d, t, hab d h1, h2, h3, h4⟩
theorem finish_any (neg : Bool) (t : Tok) (q0 b c : Nat) (pos mode : Int) (hmo : mode = 0 ∨ mode = 1 ∨ mode = 2) (hq0 : bl q0 ≤ 67108864) (hp : fitE pos) :
  VSpec Tryz.prog F.q_finish c [bv neg, nats t (digs 18446744073709551616 q0), iv (b : Int), iv pos, iv mode] (fun r _ => AnsE (fun d => d = dyOf neg (rndU mode neg q0 b) pos) r) := by
 refine sG hm G.q_finish ?_
 unfold C.q_finish R.q_finish cD
 obtain ⟨hp1, hp2⟩ := hp
 have hlq := lim_digs two64 q0
 have hnq : (digs 18446744073709551616 q0).length ≤ 1048576 := digs_len_bl (by omega)
 have hvq := val_digs two64 q0
 have hup := wayF_spec mode hmo neg t (digs 18446744073709551616 q0) b
 refine zR ?_
 refine s_call (way_spec mode hmo (c + 1)) (wSF @start_4) ?_
 rintro v c1 hc1 rfl
 refine zR ?_
 refine s_callv (f := wayF mode) wS (wayF_ex mode) (hup c1 hlq (by omega)) wS ?_
 rintro v c2 hc2 rfl
 rw [hvq]
 by_cases gbad : upB mode neg q0 b = true ∧ 67108864 < bl (q0 + 1)
 ·(repeat (first | refine v_reg ?_ | refine v_last ?_ | refine vwp_seq ?_ | refine vwp_block ?_ | refine vwp_skip ?_ | refine vwp_exit ?_ | refine vwp_ret ?_ | refine v_cond ?_ | simp (maxSteps := 4000000) (disch := omega) only [vm, ite_true, ite_false, eq_self, reduceIte, Nat.reduceEqDiff, Option.map, vst, List.length_cons, List.length_nil, List.set_cons_zero, List.set_cons_succ, List.map_cons, List.map_nil, Option.map_some, Option.bind_some, Nat.reduceAdd, Nat.reduceLT, Nat.reduceLeDiff, Nat.add_zero, and_self, k_ne, Nat.add_left_cancel_iff, ne_eq, Int.reduceEq, Int.reduceLT, Int.reduceLE, List.cons_append, List.nil_append, Nat.reduceDiv, Nat.reduceMul, Int.reduceToNat, Int.reduceAdd, Int.cast_ofNat_Int, gbad.1] | refine And.intro (by omega) ?_))
  refine s_call (from_spec 1 c2 (by decide)) wS ?_
  rintro v c3 hc3 ⟨t1, rfl, _⟩
  refine zR ?_
  refine s_call (add_spec t t1 (digs 18446744073709551616 q0) (digs 18446744073709551616 1) c3 hlq (lim_digs two64 1) (by omega) (by decide)) wS ?_
  rw [hvq, val_digs two64]
  rintro v c4 hc4 (⟨h, _⟩ | ⟨h, rfl⟩)
  ·have := gbad.2; omega
  ·have g3 : ¬ (3 : Int) = 0 := by decide
   refine zRF g3 ?_
   exact AnsE.bad (by decide)
 have hR : bl (rndU mode neg q0 b) ≤ 67108864 := by
  unfold rndU
  by_cases g : upB mode neg q0 b = true
  ·rw [if_pos g]
   rcases Nat.lt_or_ge 67108864 (bl (q0 + 1)) with w | w
   ·exact absurd ⟨g, w⟩ gbad
   ·exact w
  ·rw [if_neg g]; exact hq0
 refine zS ?_
 refine v_cutQ (fun S => ∃ tk, S.ρ 0 = bv neg ∧ S.ρ 1 = nats tk (digs 18446744073709551616 (rndU mode neg q0 b)) ∧ S.ρ 3 = iv pos ∧ S.ρ 10 = .ptr c 0 ∧ S.σ c = some ⟨[bv false, nil1, iv 0], true⟩ ∧ c2 ≤ S.c) ?_ ?_
 ·unfold rndU
  by_cases g : upB mode neg q0 b = true
  ·have hb1 : bl (q0 + 1) ≤ 67108864 := by
    rcases Nat.lt_or_ge 67108864 (bl (q0 + 1)) with w | w
    ·exact absurd ⟨g, w⟩ gbad
    ·exact w
   rw [if_pos g]
   refine zRF g ?_
   refine s_call (from_spec 1 c2 (by decide)) wS ?_
   rintro v c3 hc3 ⟨t1, rfl, _⟩
   refine zR ?_
   refine s_call (add_spec t t1 (digs 18446744073709551616 q0) (digs 18446744073709551616 1) c3 hlq (lim_digs two64 1) (by omega) (by decide)) wS ?_
   rw [hvq, val_digs two64]
   rintro v c4 hc4 (⟨_, tk, rfl, _⟩ | ⟨h, _⟩)
   ·refine zR ?_
    refine ⟨tk, ?_⟩
    (repeat' apply And.intro) <;> first | rfl | omega | assumption | exact True.intro
   ·omega
  ·have g' : upB mode neg q0 b = false := by simpa using g
   rw [if_neg g, Nat.add_zero]
   refine zRF g' ?_
   refine ⟨t, ?_⟩
   (repeat' apply And.intro) <;> first | rfl | omega | assumption | exact True.intro
 rintro ⟨ρ, σ, c5⟩ ⟨tk, r0, r1, r3, r10, s0, hc5⟩
 dsimp only at r0 r1 r3 r10 s0 hc5
 generalize rndU mode neg q0 b = N1 at *
 have hl1 := lim_digs two64 N1
 have hn1 : (digs 18446744073709551616 N1).length ≤ 1048576 := digs_len_bl (by omega)
 have hv1 := val_digs two64 N1
 have f : σ c = some ⟨[bv false, nil1, iv 0], true⟩ := s0
 refine zRF (jn r0 (jn r1 (jn r3 (jn r10 s0)))) ?_
 refine s_call (length_spec tk (digs 18446744073709551616 N1) c5 hl1 (by omega)) (wSF r1) ?_
 rintro v c6 hc6 rfl
 rw [hv1]
 have g1 : ¬ (67108864 : Int) < (bl N1 : Int) := by omega
 by_cases gz : N1 = 0
 ·have ez2 : (((List.map nv (digs 18446744073709551616 N1)).length / 1 : Nat) : Int) = 0 := by rw [gz]; rfl
  have ez : (((digs 18446744073709551616 N1).length : Nat) : Int) = 0 := by rw [gz]; rfl
  have ed : dyOf neg N1 pos = dy0 := if_pos gz
  rw [ed]
  refine zRF (jn r0 (jn r1 (jn r3 (jn r10 (jn s0 (jn g1 (jn ez ez2))))))) ?_
  exact .inr ⟨dy0, .nil, rfl, ⟨.inl rfl, fun _ => rfl⟩, rfl, rfl⟩
 ·have ez : ¬ (((digs 18446744073709551616 N1).length : Nat) : Int) = 0 := by
   intro h
   exact gz ((digs_eq_nil (b := 18446744073709551616) (by decide)).1 (List.eq_nil_of_length_eq_zero (by omega)))
  have ez2 : ¬ (((List.map nv (digs 18446744073709551616 N1)).length / 1 : Nat) : Int) = 0 := by rw [List.length_map, Nat.div_one]; exact ez
  have ed : dyOf neg N1 pos = ⟨neg, od N1, pos + (tz N1 : Int)⟩ := if_neg gz
  have htz := tz_le_bl N1
  rw [ed]
  refine zRF (jn r0 (jn r1 (jn r3 (jn r10 (jn s0 (jn g1 (jn ez ez2))))))) ?_
  refine s_call (tail_spec tk (digs 18446744073709551616 N1) c6 hl1 (by omega)) (wSF r1) ?_
  rintro v c7 hc7 rfl
  rw [hv1]
  by_cases g2 : (1099511627776 : Int) < pos + (tz N1 : Int)
  ·refine zRF (jn r0 (jn r1 (jn r3 (jn r10 (jn s0 g2))))) ?_
   exact AnsE.bad (by decide)
  have hod := dyOf_ok neg N1 pos
  have htE : tE (dyOf neg N1 pos) = 0 := by
   rcases tE_cases (dyOf neg N1 pos) with ⟨h, _⟩ | ⟨_, _, h⟩ | ⟨_, h, _⟩
   ·have := dyOf_bl (neg := neg) (n := N1) (e := pos); omega
   ·exact h
   ·rw [ed] at h
    exact absurd (show fitE (pos + (tz N1 : Int)) from ⟨by omega, by omega⟩) h
  rw [ed] at hod htE
  refine zRF (jn r0 (jn r1 (jn r3 (jn r10 (jn s0 g2))))) ?_
  refine s_call (rright_spec tk (digs 18446744073709551616 N1) (tz N1) c7 hl1 (by omega) (by omega)) (wSF r1) ?_
  rw [hv1]
  rintro v c8 hc8 ⟨t8, rfl, ht8⟩
  refine zRF (jn r0 (jn r1 (jn r3 (jn r10 s0)))) ?_
  exact .inr ⟨_, t8, rfl, hod, htE, rfl⟩
structure QuoB (mode : Int) (neg : Bool) (n X Y : Nat) : Prop where
 tow : (mode = 0 ∧ neg = false) ∨ (mode = 1 ∧ neg = true) → n * Y ≤ X
 aw : (mode = 0 ∧ neg = true) ∨ (mode = 1 ∧ neg = false) → X ≤ n * Y
theorem quoB_of {mode : Int} {neg : Bool} {X Y b : Nat} (hY : 0 < Y) (hb : b = 0 → X = X / Y * Y) : QuoB mode neg (rndU mode neg (X / Y) b) X Y := by
 have h1 := Nat.div_mul_le_self X Y
 have h2 : X < (X / Y + 1) * Y := by
  rw [Nat.add_mul, Nat.one_mul]
  have := Nat.div_add_mod X Y
  have h3 := Nat.mod_lt X hY
  rw [Nat.mul_comm] at this
  omega
 refine ⟨?_, ?_⟩
 ·rintro (⟨rfl, rfl⟩ | ⟨rfl, rfl⟩)
  ·have e : rndU 0 false (X / Y) b = X / Y := by unfold rndU; rw [up0]; simp
   rw [e]; exact h1
  ·have e : rndU 1 true (X / Y) b = X / Y := by unfold rndU; rw [up1]; simp
   rw [e]; exact h1
 ·have hh : ∀ n, n = X / Y + (if 0 < b then 1 else 0) → X ≤ n * Y := fun n hn => by
   rw [hn]
   by_cases g : 0 < b
   ·rw [if_pos g]; exact Nat.le_of_lt h2
   ·rw [if_neg g, Nat.add_zero]; exact Nat.le_of_eq (hb (by omega))
  rintro (⟨rfl, rfl⟩ | ⟨rfl, rfl⟩)
  ·exact hh _ (by unfold rndU; rw [up0]; simp)
  ·exact hh _ (by unfold rndU; rw [up1]; simp)

theorem lt_of_blt {x y : Nat} (h : bl x < bl y) : x < y := by
 rcases Nat.lt_or_ge x y with g | g
 ·exact g
 ·have := bl_mono g; omega
theorem rquotient_any (neg : Bool) (ta tb : Tok) (x y c : Nat) (k pos mode : Int) (hmo : mode = 0 ∨ mode = 1) (hx : x = 0 ∨ x % 2 = 1) (hy : y % 2 = 1) (bx : bl x ≤ 67108864) (b_y : bl y ≤ 67108864)
  (hp : fitE pos) (hk1 : -4398046511104 ≤ k) (hk2 : k ≤ 4398046511104) :
  VSpec Tryz.prog F.q_quotient c [bv neg, nats ta (digs 18446744073709551616 x), nats tb (digs 18446744073709551616 y), iv k, iv pos, iv mode] (fun r _ => AnsE (fun d => ∃ n, QuoB mode neg n (x * 2 ^ (k - pos).toNat) (y * 2 ^ (pos - k).toNat) ∧ d = dyOf neg n pos) r) := by
 refine sG hm G.q_quotient ?_
 unfold C.q_quotient R.q_quotient cD
 have hp' := hp
 obtain ⟨hp1, hp2⟩ := hp'
 have hmo3 : mode = 0 ∨ mode = 1 ∨ mode = 2 := by omega
 have lx := lim_digs two64 x
 have ly := lim_digs two64 y
 have vx := val_digs two64 x
 have vy := val_digs two64 y
 have nx : (digs 18446744073709551616 x).length ≤ 1048576 := digs_len_bl (by omega)
 have ny : (digs 18446744073709551616 y).length ≤ 1048576 := digs_len_bl (by omega)
 by_cases gz : x = 0
 ·have ez2 : (((List.map nv (digs 18446744073709551616 x)).length / 1 : Nat) : Int) = 0 := by rw [gz]; rfl
  have ez : (((digs 18446744073709551616 x).length : Nat) : Int) = 0 := by rw [gz]; rfl
  refine zRF (jn ez ez2) ?_
  refine .inr ⟨dy0, .nil, ⟨0, ⟨fun _ => ?_, fun _ => ?_⟩, (if_pos rfl : dyOf neg 0 pos = dy0).symm⟩, ⟨.inl rfl, fun _ => rfl⟩, rfl, rfl⟩
  ·rw [Nat.zero_mul]; exact Nat.zero_le _
  ·rw [gz, Nat.zero_mul]; exact Nat.zero_le _
 have ox : x % 2 = 1 := hx.resolve_left gz
 have ez : ¬ (((digs 18446744073709551616 x).length : Nat) : Int) = 0 := by
  intro h
  exact gz ((digs_eq_nil (b := 18446744073709551616) (by decide)).1 (List.eq_nil_of_length_eq_zero (by omega)))
 have ez2 : ¬ (((List.map nv (digs 18446744073709551616 x)).length / 1 : Nat) : Int) = 0 := by rw [List.length_map, Nat.div_one]; exact ez
 have hx0 : 0 < x * 2 ^ (k - pos).toNat := Nat.mul_pos (by omega) (Nat.two_pow_pos _)
 have hy0 : 0 < y * 2 ^ (pos - k).toNat := Nat.mul_pos (by omega) (Nat.two_pow_pos _)
 have bX := bl_shl (x := x) (k := (k - pos).toNat) gz
 have bY := bl_shl (x := y) (k := (pos - k).toNat) (by omega)
 refine zRF (jn ez (jn ez2 @start_4)) ?_
 refine s_call (length_spec ta (digs 18446744073709551616 x) (c + 1) lx (by omega)) wS ?_
 rintro v c1 hc1 rfl
 rw [vx]
 refine zR ?_
 refine s_call (length_spec tb (digs 18446744073709551616 y) c1 ly (by omega)) wS ?_
 rintro v c2 hc2 rfl
 rw [vy]
 by_cases g1 : (67108865 : Int) < (bl x : Int) - (bl y : Int) + (k - pos)
 ·refine zRF g1 ?_
  exact AnsE.bad (by decide)
 by_cases g2 : (bl x : Int) - (bl y : Int) + (k - pos) < -2
 ·refine zRF (jn g1 (jn g2 (jn @start_4 @start_5))) ?_
  refine s_call (finish_any neg .nil 0 1 c2 pos mode hmo3 (by decide) hp) (wSrF (jn @start_4 @start_5)) ?_
  have hlt : x * 2 ^ (k - pos).toNat / (y * 2 ^ (pos - k).toNat) = 0 := Nat.div_eq_of_lt (lt_of_blt (by omega))
  have hqb := quoB_of (mode := mode) (neg := neg) (X := x * 2 ^ (k - pos).toNat) (b := 1) hy0 (fun h => by cases h)
  rw [hlt] at hqb
  rintro v c3 hc3 (⟨e, he, rfl⟩ | ⟨d, t3, rfl, h1, h2, rfl⟩)
  ·refine zR ?_
   exact AnsE.bad he
  ·refine zR ?_
   exact .inr ⟨_, t3, ⟨_, hqb, rfl⟩, h1, h2, rfl⟩
 have htx : tz x = 0 := tz_odd ox
 have hty : tz y = 0 := tz_odd hy
 obtain ⟨m, hm⟩ : ∃ m, m = (k - pos).toNat := ⟨_, rfl⟩
 obtain ⟨n, hn⟩ : ∃ n, n = (pos - k).toNat := ⟨_, rfl⟩
 rw [← hm] at hx0 bX ⊢
 rw [← hn] at hy0 bY ⊢
 refine zS ?_
 (repeat refine And.intro (by omega) ?_)
 refine v_cut3 (fun S => ∃ t1 t2, S.ρ 0 = bv neg ∧ S.ρ 1 = nats t1 (digs 18446744073709551616 (x * 2 ^ m)) ∧ S.ρ 2 = nats t2 (digs 18446744073709551616 (y * 2 ^ n)) ∧ S.ρ 4 = iv pos ∧ S.ρ 5 = iv mode ∧ S.ρ 12 = .ptr c 0 ∧ S.σ c = some ⟨[bv false, nil1, iv 0], true⟩ ∧ c2 ≤ S.c) ?_ ?_
 ·by_cases gs : 0 ≤ k - pos
  ·have em : k - pos = (m : Int) := by omega
   have en : n = 0 := by omega
   have hmn : min (m : Int) (0 : Int) = 0 := by omega
   have hm0 : (m : Int) - (0 : Int) = (m : Int) := by omega
   have gs' : (0 : Int) ≤ (m : Int) := by omega
   rw [em] at g1 g2
   refine zRF (jn em (jn g1 (jn g2 (jn gs' (jn @start_4 @start_5))))) ?_
   refine s_call (tail_spec tb (digs 18446744073709551616 y) c2 ly (by omega)) wS ?_
   rw [vy, hty]
   rintro v c3 hc3 rfl
   refine zRF (jn hmn hm0) ?_
   refine s_call (rleft_spec ta (digs 18446744073709551616 x) m c3 lx (by omega) (by omega)) wS ?_
   rw [vx]
   rintro v c4 hc4 ⟨t1, rfl, _⟩
   refine zR ?_
   refine s_call (rright_spec tb (digs 18446744073709551616 y) 0 c4 ly (by omega) (by omega)) wS ?_
   rw [vy]
   rintro v c5 hc5 ⟨t2, rfl, _⟩
   refine zR ?_
   rw [en]
   rw [Nat.pow_zero, Nat.div_one, Nat.mul_one]
   refine ⟨t1, t2, ?_⟩
   (repeat' apply And.intro) <;> first | rfl | omega | assumption | exact True.intro | exact start_4 | exact start_5
  ·have em : pos - k = (n : Int) := by omega
   have em2 : k - pos = -(n : Int) := by omega
   have en : m = 0 := by omega
   have hmn : min (n : Int) (0 : Int) = 0 := by omega
   have hm0 : (n : Int) - (0 : Int) = (n : Int) := by omega
   have gs' : ¬ (0 : Int) ≤ -(n : Int) := by omega
   have e9 : vun .neg (iv (-(n : Int))) = some (iv (n : Int)) := by rw [n_neg' (by omega) (by omega), Int.neg_neg]
   rw [em2] at g1 g2
   refine zRF (jn em2 (jn g1 (jn g2 (jn gs' (jn e9 (jn @start_4 @start_5)))))) ?_
   refine s_call (tail_spec ta (digs 18446744073709551616 x) c2 lx (by omega)) wS ?_
   rw [vx, htx]
   rintro v c3 hc3 rfl
   refine zRF (jn hmn hm0) ?_
   refine s_call (rright_spec ta (digs 18446744073709551616 x) 0 c3 lx (by omega) (by omega)) wS ?_
   rw [vx]
   rintro v c4 hc4 ⟨t1, rfl, _⟩
   refine zRF (jn e9 hm0) ?_
   refine s_call (rleft_spec tb (digs 18446744073709551616 y) n c4 ly (by omega) (by omega)) wS ?_
   rw [vy]
   rintro v c5 hc5 ⟨t2, rfl, _⟩
   refine zR ?_
   rw [en]
   rw [Nat.pow_zero, Nat.div_one, Nat.mul_one]
   refine ⟨t1, t2, ?_⟩
   (repeat' apply And.intro) <;> first | rfl | omega | assumption | exact True.intro | exact start_4 | exact start_5
 rintro ⟨ρ, σ, c5⟩ ⟨t1, t2, r0, r1, r2, r4, r5, r12, s0, hc5⟩
 dsimp only at r0 r1 r2 r4 r5 r12 s0 hc5
 have bX2 : bl (x * 2 ^ m) ≤ 134217730 := by omega
 have bY2 : bl (y * 2 ^ n) ≤ 134217730 := by omega
 generalize x * 2 ^ m = X1 at *
 generalize y * 2 ^ n = Y1 at *
 have l1 := lim_digs two64 X1
 have l2 := lim_digs two64 Y1
 have v1 := val_digs two64 X1
 have v2 := val_digs two64 Y1
 have n1 : (digs 18446744073709551616 X1).length ≤ 2097153 := digs_len_bl (by omega)
 have n2 : (digs 18446744073709551616 Y1).length ≤ 2097153 := digs_len_bl (by omega)
 obtain ⟨Z, hZ⟩ : ∃ Z, Z = X1 / Y1 := ⟨_, rfl⟩
 have hZY : Z * Y1 ≤ X1 := by rw [hZ]; exact Nat.div_mul_le_self _ _
 have hqb := fun bb => quoB_of (mode := mode) (neg := neg) (X := X1) (b := bb) hy0
 rw [← hZ] at hqb
 refine zRF (jn r1 r2) ?_
 refine s_call (quo_spec t1 t2 (digs 18446744073709551616 X1) (digs 18446744073709551616 Y1) c5 l1 l2 (by omega) (by omega)) (wSF (jn r1 r2)) ?_
 rw [v1, v2, ← hZ]
 rintro v c6 hc6 ⟨_, hv⟩
 rcases hv hy0 with ⟨bZ, tz, rfl, _⟩ | ⟨_, rfl⟩
 rotate_left
 ·have g3 : ¬ (3 : Int) = 0 := by decide
  refine zRF (jn g3 (jn r12 s0)) ?_
  exact AnsE.bad (by decide)
 have lz := lim_digs two64 Z
 have vz := val_digs two64 Z
 have nz : (digs 18446744073709551616 Z).length ≤ 1048576 := digs_len_bl (by omega)
 refine zRF (jn r1 r2) ?_
 refine s_call (rtimes_any tz t2 (digs 18446744073709551616 Z) (digs 18446744073709551616 Y1) c6 lz l2 (by omega) (by omega)) (wSF (jn r1 r2)) ?_
 rw [vz, v2]
 rintro v c7 hc7 ⟨T, hT, t7, rfl⟩
 have hTX := Nat.le_trans hT hZY
 have lT := lim_digs two64 T
 have vT := val_digs two64 T
 refine zRF (jn r1 r2) ?_
 refine s_call (rminus_spec t1 t7 (digs 18446744073709551616 X1) (digs 18446744073709551616 T) c7 l1 lT (by omega) (digs_ne hx0) (le_len two64 hTX) (by rw [v1, vT]; exact hTX)) (wSF (jn r1 r2)) ?_
 rw [v1, vT]
 rintro v c8 hc8 ⟨t8, rfl, _⟩
 have lr := lim_digs two64 (X1 - T)
 have vr := val_digs two64 (X1 - T)
 have nr : (digs 18446744073709551616 (X1 - T)).length ≤ 2097153 := Nat.le_trans (le_len two64 (Nat.sub_le X1 T)) n1
 have bR := Nat.le_trans (bl_mono (Nat.sub_le X1 T)) bX2
 by_cases gr : X1 - T = 0
 ·have er2 : ¬ (0 : Int) < (((List.map nv (digs 18446744073709551616 (X1 - T))).length / 1 : Nat) : Int) := by rw [gr]; decide
  have er : ¬ (0 : Int) < (((digs 18446744073709551616 (X1 - T)).length : Nat) : Int) := by rw [gr]; decide
  have hq0 := hqb 0 (fun _ => by omega)
  refine zRF (jn er (jn er2 (jn r0 (jn r4 r5)))) ?_
  refine s_call (finish_any neg tz Z 0 c8 pos mode hmo3 bZ hp) (wSF (jn r0 (jn r4 r5))) ?_
  rintro v c9 hc9 (⟨e, he, rfl⟩ | ⟨d, t9, rfl, h1, h2, rfl⟩)
  ·refine zRF (jn r12 s0) ?_
   exact AnsE.bad he
  ·refine zRF (jn r12 s0) ?_
   exact .inr ⟨_, t9, ⟨_, hq0, rfl⟩, h1, h2, rfl⟩
 ·have er : (0 : Int) < (((digs 18446744073709551616 (X1 - T)).length : Nat) : Int) := by
   have := List.length_pos_iff.2 (digs_ne (Nat.pos_of_ne_zero gr))
   omega
  have er2 : (0 : Int) < (((List.map nv (digs 18446744073709551616 (X1 - T))).length / 1 : Nat) : Int) := by rw [List.length_map, Nat.div_one]; exact er
  refine zRF (jn er (jn er2 r2)) ?_
  refine s_call (rleft_spec t8 (digs 18446744073709551616 (X1 - T)) 1 c8 lr (by omega) (by decide)) wS ?_
  rw [vr]
  rintro v c9 hc9 ⟨t9, rfl, _⟩
  have lr2 := lim_digs two64 ((X1 - T) * 2 ^ 1)
  have vr2 := val_digs two64 ((X1 - T) * 2 ^ 1)
  have nr2 : (digs 18446744073709551616 ((X1 - T) * 2 ^ 1)).length ≤ 2097154 := by
   have h := bl_sh_le' (X1 - T) 1
   exact digs_len_bl (by omega)
  refine zRF r2 ?_
  refine s_call (compare_spec t9 t2 (digs 18446744073709551616 ((X1 - T) * 2 ^ 1)) (digs 18446744073709551616 Y1) c9 lr2 l2 (by omega) (by omega)) (wSF r2) ?_
  rw [vr2, v2]
  rintro v c10 hc10 rfl
  obtain ⟨bb, hb1, hb2, hb3⟩ : ∃ bb : Nat, (2 : Int) + cmpI ((X1 - T) * 2 ^ 1) Y1 = (bb : Int) ∧ bb ≠ 0 ∧ bb ≤ 3 := by
   unfold cmpI
   split
   ·exact ⟨1, rfl, by decide, by decide⟩
   ·split
    ·exact ⟨2, rfl, by decide, by decide⟩
    ·exact ⟨3, rfl, by decide, by decide⟩
  have hq1 := hqb bb (fun h => absurd h hb2)
  refine zRF (jn hb1 (jn r0 (jn r4 r5))) ?_
  refine s_call (finish_any neg tz Z bb c10 pos mode hmo3 bZ hp) (wSF (jn r0 (jn r4 r5))) ?_
  rintro v c11 hc11 (⟨e, he, rfl⟩ | ⟨d, t11, rfl, h1, h2, rfl⟩)
  ·refine zRF (jn r12 s0) ?_
   exact AnsE.bad he
  ·refine zRF (jn r12 s0) ?_
   exact .inr ⟨_, t11, ⟨_, hq1, rfl⟩, h1, h2, rfl⟩
theorem rquo_any (ta tb : Tok) (a b : RD) (pos mode : Int) (c : Nat) (hmo : mode = 0 ∨ mode = 1) (ha : a.Ok) (hb : b.Ok) (b0 : b.d.m ≠ 0) (hp : fitE pos) :
  VSpec Tryz.prog F.q_Quo c [rdV ta a, rdV tb b, iv pos, iv mode] (fun r _ => AnsE (fun d => ∃ n, QuoB mode (a.d.neg != b.d.neg) n (quoP a.d b.d pos) (quoR a.d b.d pos) ∧ d = dyOf (a.d.neg != b.d.neg) n pos) r) := by
 refine sG hm G.q_Quo ?_
 unfold C.q_Quo R.q_Quo cD
 have na := ha.num
 have nb := hb.num
 have a1 := na.lo
 have a2 := na.hi
 have b1 := nb.lo
 have b2 := nb.hi
 have oa := na.ok.odd
 have ob := nb.ok.odd.resolve_left b0
 have b_nx : ∀ x y : Bool, sbin .neq true (bv x) (bv y) = some (bv (x != y)) := fun x y => by cases x <;> cases y <;> rfl
 refine zR ?_
 refine s_call (rread_spec a.neg ta a.l a.e (c + 3) ha.arg ha.fit) wS ?_
 have e1 : dyOf a.neg (val 18446744073709551616 a.l) a.e = a.d := rfl
 rw [e1]
 rintro v c1 hc1 ⟨t1, rfl, _⟩
 refine zR ?_
 refine s_call (rread_spec b.neg tb b.l b.e (c1 + 1) hb.arg hb.fit) wS ?_
 have e2 : dyOf b.neg (val 18446744073709551616 b.l) b.e = b.d := rfl
 rw [e2]
 rintro v c2 hc2 ⟨t2, rfl, _⟩
 refine zR ?_
 refine s_call (rasked_spec pos mode (c2 + 1) hp (by omega)) wS ?_
 rintro v c3 hc3 rfl
 have ez : ¬ (((digs 18446744073709551616 b.d.m).length : Nat) : Int) = 0 := by
  intro h
  exact b0 ((digs_eq_nil (b := 18446744073709551616) (by decide)).1 (List.eq_nil_of_length_eq_zero (by omega)))
 have ez2 : ¬ (((List.map nv (digs 18446744073709551616 b.d.m)).length / 1 : Nat) : Int) = 0 := by rw [List.length_map, Nat.div_one]; exact ez
 refine zRF (jn ez (jn ez2 @b_nx)) ?_
 refine s_call (rquotient_any (a.d.neg != b.d.neg) t1 t2 a.d.m b.d.m c3 (a.d.e - b.d.e) pos mode hmo oa ob na.bits nb.bits hp (by omega) (by omega)) wS ?_
 rintro v c4 hc4 (⟨e, he, rfl⟩ | ⟨d, t4, h0, h1, h2, rfl⟩)
 ·refine zR ?_
  exact AnsE.bad he
 ·refine zR ?_
  exact .inr ⟨d, t4, h0, h1, h2, rfl⟩

theorem rsqrt_any (ta : Tok) (a : RD) (pos mode : Int) (c : Nat) (hmo : mode = 0 ∨ mode = 1) (ha : a.Ok) (hneg : a.d.neg = false) (hp : fitE pos) :
  VSpec Tryz.prog F.q_Sqrt c [rdV ta a, iv pos, iv mode] (fun r _ => AnsE (fun d => ∃ n, SqF mode n (sqP a.d pos) (sqR a.d pos) ∧ d = dyOf false n pos) r) := by
 refine sG hm G.q_Sqrt ?_
 unfold C.q_Sqrt R.q_Sqrt cD
 have hp' := hp
 obtain ⟨hp1, hp2⟩ := hp'
 have hmo3 : mode = 0 ∨ mode = 1 ∨ mode = 2 := by omega
 have bx : bl a.d.m ≤ 67108864 := ha.num.bits
 have na := ha.num
 have a1 := na.lo
 have a2 := na.hi
 have oa := na.ok.odd
 have e1 : dyOf a.neg (val 18446744073709551616 a.l) a.e = a.d := rfl
 have hRp : 0 < sqR a.d pos := Nat.two_pow_pos _
 refine zR ?_
 refine s_call (rread_spec a.neg ta a.l a.e (c + 2) ha.arg ha.fit) wS ?_
 rw [e1]
 rintro v c1 hc1 ⟨t1, rfl, _⟩
 generalize a.d = d at *
 clear e1
 obtain ⟨dn, m, e⟩ := d
 obtain rfl : dn = false := hneg
 unfold sqP sqR at *
 dsimp only at *
 refine zR ?_
 refine s_call (rasked_spec pos mode (c1 + 1) hp hmo3) wS ?_
 rintro v c2 hc2 rfl
 have lx := lim_digs two64 m
 have vx := val_digs two64 m
 have nx : (digs 18446744073709551616 m).length ≤ 1048576 := digs_len_bl (by omega)
 by_cases gz : m = 0
 ·have ez2 : (((List.map nv (digs 18446744073709551616 m)).length / 1 : Nat) : Int) = 0 := by rw [gz]; rfl
  have ez : (((digs 18446744073709551616 m).length : Nat) : Int) = 0 := by rw [gz]; rfl
  refine zRF (jn ez ez2) ?_
  refine .inr ⟨dy0, .nil, ⟨0, ⟨Nat.zero_le _, fun _ => ⟨?_, ?_⟩, fun _ => ?_⟩, (if_pos rfl : dyOf false 0 pos = dy0).symm⟩, ⟨.inl rfl, fun _ => rfl⟩, rfl, rfl⟩
  ·simp
  ·rw [gz, Nat.zero_mul]; exact Nat.mul_pos (by decide) hRp
  ·rw [gz, Nat.zero_mul]; exact Nat.zero_le _
 have om : m % 2 = 1 := oa.resolve_left gz
 have ez : ¬ (((digs 18446744073709551616 m).length : Nat) : Int) = 0 := by
  intro h
  exact gz ((digs_eq_nil (b := 18446744073709551616) (by decide)).1 (List.eq_nil_of_length_eq_zero (by omega)))
 have ez2 : ¬ (((List.map nv (digs 18446744073709551616 m)).length / 1 : Nat) : Int) = 0 := by rw [List.length_map, Nat.div_one]; exact ez
 have hbp := bl_pos (Nat.pos_of_ne_zero gz)
 refine zRF (jn ez ez2) ?_
 refine s_call (length_spec t1 (digs 18446744073709551616 m) c2 lx (by omega)) wS ?_
 rw [vx]
 rintro v c3 hc3 rfl
 by_cases g1 : (134217730 : Int) < (bl m : Int) + (e - 2 * pos)
 ·refine zRF g1 ?_
  exact AnsE.bad (by decide)
 refine zRF g1 ?_
 refine s_call (length_spec t1 (digs 18446744073709551616 m) c3 lx (by omega)) wS ?_
 rw [vx]
 rintro v c4 hc4 rfl
 by_cases g2 : (bl m : Int) + (e - 2 * pos) < -4
 ·refine zRF g2 ?_
  refine s_call (finish_any false .nil 0 1 c4 pos mode hmo3 (by decide) hp) wSr ?_
  rintro v c5 hc5 hv
  have hlt : m < 2 ^ (-(e - 2 * pos + 2)).toNat := Nat.lt_of_lt_of_le (lt_bl m) (Nat.pow_le_pow_right (by decide) (by omega))
  have e0 : (e - 2 * pos + 2).toNat = 0 := by omega
  rw [e0, Nat.pow_zero, Nat.mul_one]
  have hq : IsRoot (m / 2 ^ (-(e - 2 * pos + 2)).toNat) 2 0 := by rw [Nat.div_eq_of_lt hlt]; exact isRoot_zero
  have hsq := sqF_of (mode := mode) (more := true) hRp hq (by rw [Nat.zero_mul]; exact ⟨fun _ h => gz h.symm, fun _ => rfl⟩)
  rcases hv with ⟨e', he, rfl⟩ | ⟨d, t5, rfl, h1, h2, rfl⟩
  ·refine zR ?_
   exact AnsE.bad he
  ·refine zR ?_
   exact .inr ⟨_, t5, ⟨_, hsq, rfl⟩, h1, h2, rfl⟩
 obtain ⟨X1, hX1⟩ : ∃ X1, X1 = m * 2 ^ (e - 2 * pos + 2).toNat := ⟨_, rfl⟩
 obtain ⟨Y1, hY1⟩ : ∃ Y1, Y1 = 2 ^ (-(e - 2 * pos + 2)).toNat := ⟨_, rfl⟩
 rw [← hX1, ← hY1]
 rw [← hY1] at hRp
 have bX : bl X1 ≤ 201326600 := by
  have := bl_sh_le' m (e - 2 * pos + 2).toNat
  rw [hX1]; omega
 have bXY : bl (X1 / Y1) ≤ 201326600 := Nat.le_trans (bl_mono (Nat.div_le_self _ _)) bX
 refine zSF g2 ?_
 (repeat refine And.intro (by omega) ?_)
 refine v_cutQ4 (fun S => ∃ tn, S.ρ 1 = iv pos ∧ S.ρ 2 = iv mode ∧ S.ρ 6 = .ptr (c + 1) 0 ∧ S.σ (c + 1) = some ⟨[bv false, nil1, iv 0], true⟩ ∧ S.ρ 12 = bv (!decide (X1 % Y1 = 0)) ∧ S.ρ 13 = nats tn (digs 18446744073709551616 (X1 / Y1)) ∧ c4 ≤ S.c) ?_ ?_
 ·by_cases gs : 0 ≤ e - 2 * pos + 2
  ·obtain ⟨n, hn⟩ : ∃ n, n = (e - 2 * pos + 2).toNat := ⟨_, rfl⟩
   have em : e - 2 * pos + 2 = (n : Int) := by omega
   have gs' : (0 : Int) ≤ (n : Int) := by omega
   have ey : Y1 = 1 := by rw [hY1, show (-(e - 2 * pos + 2)).toNat = 0 by omega, Nat.pow_zero]
   have ed : X1 % Y1 = 0 := by rw [ey, Nat.mod_one]
   rw [ed, ey, Nat.div_one, hX1, ← hn]
   refine zRF (jn g2 (jn em gs')) ?_
   refine s_call (rleft_spec t1 (digs 18446744073709551616 m) n c4 lx (by omega) (by omega)) wS ?_
   rw [vx]
   rintro v c5 hc5 ⟨t5, rfl, _⟩
   refine zR ?_
   refine ⟨t5, ?_⟩
   (repeat' apply And.intro) <;> first | rfl | omega | assumption | exact True.intro
  ·obtain ⟨n, hn⟩ : ∃ n, n = (-(e - 2 * pos + 2)).toNat := ⟨_, rfl⟩
   have em : e - 2 * pos + 2 = -(n : Int) := by omega
   have gs' : ¬ (0 : Int) ≤ -(n : Int) := by omega
   have ex : X1 = m := by rw [hX1, show (e - 2 * pos + 2).toNat = 0 by omega, Nat.pow_zero, Nat.mul_one]
   have ed : decide (X1 % Y1 = 0) = false := decide_eq_false (by rw [ex, hY1, ← hn]; exact odd_mod om (by omega))
   have e9 : vun .neg (iv (-(n : Int))) = some (iv (n : Int)) := by rw [n_neg' (by omega) (by omega), Int.neg_neg]
   have gt : (0 : Int) < (n : Int) := by omega
   rw [ed, ex, hY1, ← hn]
   refine zRF (jn g2 (jn em (jn gs' e9))) ?_
   refine s_call (tail_spec t1 (digs 18446744073709551616 m) c4 lx (by omega)) wS ?_
   rw [vx, tz_odd om]
   rintro v c5 hc5 rfl
   refine zRF (jn gt e9) ?_
   refine s_call (rright_spec t1 (digs 18446744073709551616 m) n c5 lx (by omega) (by omega)) wS ?_
   rw [vx]
   rintro v c6 hc6 ⟨t6, rfl, _⟩
   refine zR ?_
   refine ⟨t6, ?_⟩
   (repeat' apply And.intro) <;> first | rfl | omega | assumption | exact True.intro
 rintro ⟨ρ, σ, c5⟩ ⟨tn, r1, r2, r6, s1, r12, r13, hc5⟩
 dsimp only at r1 r2 r6 s1 r12 r13 hc5
 have lq := lim_digs two64 (X1 / Y1)
 have vq := val_digs two64 (X1 / Y1)
 have nq : (digs 18446744073709551616 (X1 / Y1)).length ≤ 4194304 := digs_len_bl (by omega)
 refine zRF r13 ?_
 refine s_call (sqrt_spec tn (digs 18446744073709551616 (X1 / Y1)) c5 lq (by omega)) (wSF r13) ?_
 rw [vq]
 rintro v c6 hc6 (⟨bXZ, x, tx, ty, hx, rfl, _, _⟩ | ⟨_, rfl⟩)
 rotate_left
 ·have g3 : ¬ (3 : Int) = 0 := by decide
  refine zRF (jn g3 (jn r6 s1)) ?_
  exact AnsE.bad (by decide)
 have hx2 := hx.1
 rw [Nat.pow_two] at hx2
 have hmo2 := more_iff hRp hx2
 have hsq := fun more => sqF_of (mode := mode) (more := more) hRp hx
 have bx2 : bl x ≤ 67108864 := by
  rcases Nat.eq_zero_or_pos x with h | h
  ·rw [h, bl_zero]; omega
  ·have h1 : 2 ^ (bl x - 1) ≤ x := by
    rcases Nat.lt_or_ge x (2 ^ (bl x - 1)) with g | g
    ·have := bl_le g; have := bl_pos h; omega
    ·exact g
   have h3 : 2 ^ (bl x - 1 + (bl x - 1)) ≤ X1 / Y1 := by
    rw [Nat.pow_add]
    exact Nat.le_trans (Nat.mul_le_mul h1 h1) hx2
   have h5 := (Nat.pow_lt_pow_iff_right (by decide : 1 < 2)).1 (Nat.lt_of_le_of_lt h3 (lt_bl (X1 / Y1)))
   have := bl_pos h
   omega
 have l1 := lim_digs two64 x
 have v1 := val_digs two64 x
 have n1 : (digs 18446744073709551616 x).length ≤ 1048576 := digs_len_bl (by omega)
 have bxh : bl (x / 2) ≤ 67108864 := Nat.le_trans (bl_mono (Nat.div_le_self _ _)) bx2
 clear hx hx2 hX1 hY1 bX bXY lq vq nq bXZ
 generalize X1 / Y1 - x ^ 2 = rest at *
 refine zRF r12 ?_
 refine s_call (rright_spec tx (digs 18446744073709551616 x) 1 c6 l1 (by omega) (by decide)) wS ?_
 rw [v1, Nat.pow_one]
 rintro v c7 hc7 ⟨t7, rfl, _⟩
 refine zS ?_
 refine v_cut (fun S => ∃ more : Bool, (more = true ↔ x * x * Y1 ≠ X1) ∧ S.ρ 1 = iv pos ∧ S.ρ 2 = iv mode ∧ S.ρ 6 = .ptr (c + 1) 0 ∧ S.σ (c + 1) = some ⟨[bv false, nil1, iv 0], true⟩ ∧ S.ρ 14 = nats tx (digs 18446744073709551616 x) ∧ S.ρ 16 = nats t7 (digs 18446744073709551616 (x / 2)) ∧ S.ρ 17 = bv more ∧ c7 ≤ S.c) ?_ ?_
 ·by_cases g1 : X1 % Y1 = 0
  ·have r12' : ρ 12 = bv false := by rw [r12, decide_eq_true g1]; rfl
   by_cases gr : rest = 0
   ·have er : ¬ (0 : Int) < (((digs 18446744073709551616 rest).length : Nat) : Int) := by rw [gr]; decide
    have er2 : ¬ (0 : Int) < (((List.map nv (digs 18446744073709551616 rest)).length / 1 : Nat) : Int) := by rw [gr]; decide
    refine zRF (jn r12' (jn er (jn er2 (jn r1 (jn r2 (jn r6 s1)))))) ?_
    refine ⟨false, ⟨fun h => (by cases h), fun h => absurd (hmo2.2 ⟨g1, gr⟩) h⟩, ?_⟩
    (repeat' apply And.intro) <;> first | rfl | omega | assumption | exact True.intro
   ·have er : (0 : Int) < (((digs 18446744073709551616 rest).length : Nat) : Int) := by
     have := List.length_pos_iff.2 (digs_ne (Nat.pos_of_ne_zero gr))
     omega
    have er2 : (0 : Int) < (((List.map nv (digs 18446744073709551616 rest)).length / 1 : Nat) : Int) := by rw [List.length_map, Nat.div_one]; exact er
    refine zRF (jn r12' (jn er (jn er2 (jn r1 (jn r2 (jn r6 s1)))))) ?_
    refine ⟨true, ⟨fun _ h => gr (hmo2.1 h).2, fun _ => rfl⟩, ?_⟩
    (repeat' apply And.intro) <;> first | rfl | omega | assumption | exact True.intro
  ·have r12' : ρ 12 = bv true := by rw [r12, decide_eq_false g1]; rfl
   refine zRF (jn r12' (jn r1 (jn r2 (jn r6 s1)))) ?_
   refine ⟨true, ⟨fun _ h => g1 (hmo2.1 h).1, fun _ => rfl⟩, ?_⟩
   (repeat' apply And.intro) <;> first | rfl | omega | assumption | exact True.intro
 clear r1 r2 r6 s1 r12 r13 hmo2
 rintro ⟨ρ2, σ2, c8⟩ ⟨more, hmore, r1, r2, r6, s1, r14, r16, r17, hc8⟩
 dsimp only at r1 r2 r6 s1 r14 r16 r17 hc8
 have hsq2 := hsq more hmore
 have hfin : ∀ (b : Nat) cc, b = beh2 x more → VSpec Tryz.prog F.q_finish cc [bv false, nats t7 (digs 18446744073709551616 (x / 2)), iv (b : Int), iv pos, iv mode] (fun r c' => AnsE (fun d => ∃ n, SqF mode n X1 Y1 ∧ d = dyOf false n pos) r) := fun b cc h => by
  rw [h]; exact (finish_any false t7 (x / 2) (beh2 x more) cc pos mode hmo3 bxh hp).mono fun r c' h => h.mono fun d hd => ⟨_, hsq2, hd⟩
 refine zRF r14 ?_
 refine s_call (bit0_spec tx (digs 18446744073709551616 x) c8 l1 (by omega)) (wSF r14) ?_
 rw [v1]
 rintro v c9 hc9 rfl
 by_cases go : x % 2 = 1
 ·have go' : ((x % 2 : Nat) : Int) = 1 := by omega
  cases more
  ·refine zRF (jn go' (jn r14 r17)) ?_
   refine s_call (bit0_spec tx (digs 18446744073709551616 x) c9 l1 (by omega)) (wSF r14) ?_
   rw [v1]
   rintro v c10 hc10 rfl
   refine zRF (jn go' (jn r16 (jn r1 r2))) ?_
   refine s_call (hfin 2 c10 (by unfold beh2; rw [if_pos go]; rfl)) (wSF (jn r16 (jn r1 r2))) ?_
   rintro v c11 hc11 (⟨e', he, rfl⟩ | ⟨d, t11, h0, h1, h2, rfl⟩)
   ·refine zRF (jn r6 s1) ?_
    exact AnsE.bad he
   ·refine zRF (jn r6 s1) ?_
    exact .inr ⟨d, t11, h0, h1, h2, rfl⟩
  ·refine zRF (jn go' (jn r14 (jn r17 (jn r16 (jn r1 r2))))) ?_
   refine s_call (hfin 3 c9 (by unfold beh2; rw [if_pos go]; rfl)) (wSF (jn r16 (jn r1 r2))) ?_
   rintro v c11 hc11 (⟨e', he, rfl⟩ | ⟨d, t11, h0, h1, h2, rfl⟩)
   ·refine zRF (jn r6 s1) ?_
    exact AnsE.bad he
   ·refine zRF (jn r6 s1) ?_
    exact .inr ⟨d, t11, h0, h1, h2, rfl⟩
 ·have go' : ¬ ((x % 2 : Nat) : Int) = 1 := by omega
  refine zRF (jn go' r14) ?_
  refine s_call (bit0_spec tx (digs 18446744073709551616 x) c9 l1 (by omega)) (wSF r14) ?_
  rw [v1]
  rintro v c10 hc10 rfl
  cases more
  ·refine zRF (jn go' (jn r17 (jn r16 (jn r1 r2)))) ?_
   refine s_call (hfin 0 c10 (by unfold beh2; rw [if_neg go]; rfl)) (wSF (jn r16 (jn r1 r2))) ?_
   rintro v c11 hc11 (⟨e', he, rfl⟩ | ⟨d, t11, h0, h1, h2, rfl⟩)
   ·refine zRF (jn r6 s1) ?_
    exact AnsE.bad he
   ·refine zRF (jn r6 s1) ?_
    exact .inr ⟨d, t11, h0, h1, h2, rfl⟩
  ·refine zRF (jn go' (jn r17 (jn r16 (jn r1 r2)))) ?_
   refine s_call (hfin 1 c10 (by unfold beh2; rw [if_neg go]; rfl)) (wSF (jn r16 (jn r1 r2))) ?_
   rintro v c11 hc11 (⟨e', he, rfl⟩ | ⟨d, t11, h0, h1, h2, rfl⟩)
   ·refine zRF (jn r6 s1) ?_
    exact AnsE.bad he
   ·refine zRF (jn r6 s1) ?_
    exact .inr ⟨d, t11, h0, h1, h2, rfl⟩
end Go.Proofs.YtcafgpconlkecaaGreatDoor
