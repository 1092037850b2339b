/- Texts of a claim, merged: what they prove is told at the last one's head. -/
import Derived.Test.YtplofcianjnkmaaGreatDoorOwM4
set_option linter.unusedSimpArgs false
set_option linter.unusedVariables false
set_option maxRecDepth 100000
set_option maxHeartbeats 4000000
namespace Go.Proofs.YtplofcianjnkmaaGreatDoor
open Go.VM

theorem school_spec (t u : Tok) (a b : List Nat) (c : Nat) (ha : Lim 18446744073709551616 a) (hb : Lim 18446744073709551616 b) (hna : a.length ≤ 1099511627776) (hnb : b.length ≤ 1099511627776) :
    VSpec Tryz.prog F.mul_school c [nats t a, nats u b] (fun r c' => ∃ l i, r = nats (.id i) l ∧ c ≤ i ∧ i < c' ∧ Lim 18446744073709551616 l ∧ l.length = a.length + b.length ∧ val 18446744073709551616 l = val 18446744073709551616 a * val 18446744073709551616 b) := by
  refine spec_mk hm E.mul_school B.mul_school K.mul_school Q.mul_school (by rw [N.mul_school]; simp) ?_
  unfold C.mul_school R.mul_school
  refine xR ?_
  refine s_mk (n := a.length + b.length) (m := a.length + b.length) ySr ySr (Nat.le_refl _) (by omega) ?_
  refine xR ?_
  refine v_loop (fun S => ∃ w, w.length = a.length + b.length ∧ Lim 18446744073709551616 w ∧ val 18446744073709551616 w = val 18446744073709551616 a * val 18446744073709551616 b ∧ S.ρ 5 = .buf c 0 (a.length + b.length) (some (a.length + b.length)) 1 ∧ S.σ = supd noBlk c (nblk w) ∧ c + 1 ≤ S.c) ?_ ?_
  · refine vwp_loop (fun m S => ∃ i w, m = a.length - i ∧ i ≤ a.length ∧ w.length = i + b.length ∧ Lim 18446744073709551616 w ∧ val 18446744073709551616 w = val 18446744073709551616 (a.take i) * val 18446744073709551616 b ∧ S.ρ 1 = nats u b ∧ S.ρ 5 = .buf c 0 (a.length + b.length) (some (a.length + b.length)) 1 ∧ S.ρ 20 = nats t a ∧ S.ρ 21 = iv a.length ∧ S.ρ 22 = iv i ∧ S.σ = supd noBlk c (nblk (w ++ List.replicate (a.length - i) 0)) ∧ c + 1 ≤ S.c) a.length ?_ ?_
    · refine ⟨0, List.replicate b.length 0, by omega, by omega, ?_⟩
      refine xS ?_
      have e0 : List.replicate b.length 0 ++ List.replicate (a.length - 0) 0 = List.replicate (a.length + b.length) 0 := by
        rw [List.replicate_append_replicate]; congr 1; omega
      (repeat' apply And.intro) <;> first | rfl | omega | assumption | (simp; done) | exact Lim.replicate (by decide) | (rw [val_replicate]; simp [val]; done) | (rw [e0])
    rintro m ⟨ρ2, σ, c4⟩ ⟨i, w, hm', hi, hw, hlw, hinv, h1, h5, h20, h21, h22, hσ, hc4⟩
    dsimp only at h1 h5 h20 h21 h22 hσ hc4
    subst hσ
    by_cases g : (i : Int) < a.length
    · have hi' : i < a.length := by omega
      have hxi := ha.getD (i := i) (by decide)
      have hx' := val_take' 18446744073709551616 a i
      refine xRF (jn h1 (jn h5 (jn h20 (jn h21 (jn h22 g))))) ?_
      generalize a.getD i 0 = x at *
      refine v_loop (fun S => ∃ w' carry, w'.length = i + b.length ∧ Lim 18446744073709551616 w' ∧ carry < 18446744073709551616 ∧ val 18446744073709551616 w' + 18446744073709551616 ^ (i + b.length) * carry = val 18446744073709551616 w + 18446744073709551616 ^ i * (x * val 18446744073709551616 b) ∧ S.ρ 1 = nats u b ∧ S.ρ 5 = .buf c 0 (a.length + b.length) (some (a.length + b.length)) 1 ∧ S.ρ 6 = iv i ∧ S.ρ 8 = nv carry ∧ S.ρ 20 = nats t a ∧ S.ρ 21 = iv a.length ∧ S.ρ 22 = iv i ∧ S.σ = supd noBlk c (nblk (w' ++ List.replicate (a.length - i) 0)) ∧ c + 1 ≤ S.c) ?_ ?_
      · refine vwp_loop (fun m S => ∃ k w' carry, m = b.length - k ∧ k ≤ b.length ∧ w'.length = i + b.length ∧ Lim 18446744073709551616 w' ∧ carry < 18446744073709551616 ∧ val 18446744073709551616 w' + 18446744073709551616 ^ (i + k) * carry = val 18446744073709551616 w + 18446744073709551616 ^ i * (x * val 18446744073709551616 (b.take k)) ∧ S.ρ 1 = nats u b ∧ S.ρ 5 = .buf c 0 (a.length + b.length) (some (a.length + b.length)) 1 ∧ S.ρ 6 = iv i ∧ S.ρ 7 = nv x ∧ S.ρ 8 = nv carry ∧ S.ρ 20 = nats t a ∧ S.ρ 21 = iv a.length ∧ S.ρ 22 = iv i ∧ S.ρ 27 = nats u b ∧ S.ρ 28 = iv b.length ∧ S.ρ 29 = iv k ∧ S.σ = supd noBlk c (nblk (w' ++ List.replicate (a.length - i) 0)) ∧ c + 1 ≤ S.c) b.length ?_ ?_
        · refine ⟨0, w, 0, by omega, by omega, ?_⟩
          refine xSF (jn h1 (jn h5 (jn h20 (jn h21 h22)))) ?_
          (repeat' apply And.intro) <;> first | rfl | omega | assumption | (simp [val]; done)
        rintro m ⟨ρ3, σ, c5⟩ ⟨k, w', carry, hm2, hk, hw', hlw', hca, hinv', q1, q5, q6, q7, q8, q20, q21, q22, q27, q28, q29, hσ, hc5⟩
        dsimp only at q1 q5 q6 q7 q8 q20 q21 q22 q27 q28 q29 hσ hc5
        subst hσ
        by_cases g2 : (k : Int) < b.length
        · have hk' : k < b.length := by omega
          have hyk := hb.getD (i := k) (by decide)
          have hy' := val_take' 18446744073709551616 b k
          have hik : i + k < w'.length := by omega
          have hwk := hlw'.getD (i := i + k) (by decide)
          have key := addAt_step (b := 18446744073709551616) (k := i) (Y := x * val 18446744073709551616 (b.take k)) (y := x * b.getD k 0) (c := carry) hik (by omega) hinv' _ rfl
          rw [show i + k - i = k by omega, Nat.mul_left_comm, ← Nat.mul_add, ← hy'] at key
          obtain ⟨s1, s2, s3⟩ := school_step (mul_le_max hxi hyk) hca hwk
          have eik : ((i : Int) + (k : Int)).toNat = i + k := by omega
          have hget : (w' ++ List.replicate (a.length - i) 0).getD (i + k) 0 = w'.getD (i + k) 0 := getD_append_left hik
          have hset : ∀ v, (w' ++ List.replicate (a.length - i) 0).set (i + k) v = w'.set (i + k) v ++ List.replicate (a.length - i) 0 := fun v => List.set_append_left _ _ hik
          have hlen : (w' ++ List.replicate (a.length - i) 0).length = a.length + b.length := by simp; omega
          refine xRF (jn q1 (jn q5 (jn q6 (jn q7 (jn q8 (jn q20 (jn q21 (jn q22 (jn q27 (jn q28 (jn q29 g2))))))))))) ?_
          refine s_call (mul64_spec x (b.getD k 0) c5 hxi hyk) (yMF q7) ?_
          rintro v c6 hc6 rfl
          refine xRF (jn q1 (jn q5 (jn q6 (jn q7 (jn q8 (jn q20 (jn q21 (jn q22 (jn q27 (jn q28 (jn q29 (jn g2 (jn @Nat.add_zero (jn eik (jn hget (jn hset (jn hlen (jn s1 s2)))))))))))))))))) ?_
          refine ⟨b.length - (k + 1), by omega, k + 1, w'.set (i + k) ((w'.getD (i + k) 0 + x * b.getD k 0 + carry) % 18446744073709551616), (w'.getD (i + k) 0 + x * b.getD k 0 + carry) / 18446744073709551616, ?_⟩
          (repeat' apply And.intro) <;> first | rfl | omega | assumption | (rw [List.length_set]; exact hw') | exact hlw'.set (Nat.mod_lt _ (by decide)) | exact key
        · have hk' : k = b.length := by omega
          subst hk'
          refine xRF (jn q1 (jn q5 (jn q6 (jn q7 (jn q8 (jn q20 (jn q21 (jn q22 (jn q27 (jn q28 (jn q29 g2))))))))))) ?_
          rw [List.take_length] at hinv'
          refine ⟨w', carry, hw', hlw', hca, hinv', ?_⟩
          (repeat' apply And.intro) <;> first | rfl | omega | assumption
      rintro ⟨ρ3, σ, c5⟩ ⟨w', carry, hw', hlw', hca, hinv', q1, q5, q6, q8, q20, q21, q22, hσ, hc5⟩
      dsimp only at q1 q5 q6 q8 q20 q21 q22 hσ hc5
      subst hσ
      have eib : ((i : Int) + (b.length : Int)).toNat = i + b.length := by omega
      have hlen : (w' ++ List.replicate (a.length - i) 0).length = a.length + b.length := by simp; omega
      have hset : ∀ v, (w' ++ List.replicate (a.length - i) 0).set (i + b.length) v = (w' ++ [v]) ++ List.replicate (a.length - (i + 1)) 0 := fun v => by
        have := set_fill w' (a.length - (i + 1)) v
        rw [hw'] at this
        rw [show a.length - i = a.length - (i + 1) + 1 by omega, this]
      refine xRF (jn q1 (jn q5 (jn q6 (jn q8 (jn q20 (jn q21 (jn q22 (jn eib (jn hlen hset))))))))) ?_
      refine ⟨a.length - (i + 1), by omega, i + 1, w' ++ [carry], ?_⟩
      have hvv : val 18446744073709551616 (w' ++ [carry]) = val 18446744073709551616 (a.take (i + 1)) * val 18446744073709551616 b := by
        rw [val_append, hw']
        simp only [val, Nat.mul_zero, Nat.add_zero]
        rw [hinv', hinv, hx', Nat.add_mul, Nat.mul_assoc]
      (repeat' apply And.intro) <;> first | rfl | omega | assumption | (simp; omega) | exact lim_snoc hlw' hca | exact hvv
    · have hi' : i = a.length := by omega
      subst hi'
      refine xRF (jn h1 (jn h5 (jn h20 (jn h21 (jn h22 g))))) ?_
      rw [List.take_length] at hinv
      refine ⟨w, by omega, hlw, hinv, ?_⟩
      have e0 : w ++ List.replicate (a.length - a.length) 0 = w := by simp
      rw [e0]
      (repeat' apply And.intro) <;> first | rfl | omega | assumption
  rintro ⟨ρ3, σ, c5⟩ ⟨w, hw, hlw, hvw, h5, hσ, hc5⟩
  dsimp only at h5 hσ hc5
  subst hσ
  refine v_freeze 5 (t := c) (off := 0) (n := a.length + b.length) (cap := some (a.length + b.length)) (l := w) (ySF h5) yS (by omega) (by omega) ?_
  rw [List.drop_zero, show w.take (a.length + b.length) = w from List.take_of_length_le (by omega)]
  refine xR ?_
  exact ⟨w, c, rfl, by omega, by omega, hlw, hw, hvw⟩
end Go.Proofs.YtplofcianjnkmaaGreatDoor
set_option linter.unusedSimpArgs false
set_option linter.unusedVariables false
set_option maxRecDepth 100000
set_option maxHeartbeats 4000000
namespace Go.Proofs.YtplofcianjnkmaaGreatDoor
open Go.VM

def RawR (c c' n m : Nat) (r : V) : Prop := ∃ l i, r = nats (.id i) l ∧ c ≤ i ∧ i < c' ∧ Lim 18446744073709551616 l ∧ l.length ≤ m ∧ val 18446744073709551616 l = n

theorem kar (X0 X1 Y0 Y1 P : Nat) : X0 * Y0 + P * ((X0 + X1) * (Y0 + Y1) - X0 * Y0 - X1 * Y1) + P * P * (X1 * Y1) = (X0 + P * X1) * (Y0 + P * Y1) ∧ X0 * Y0 ≤ (X0 + X1) * (Y0 + Y1) ∧ X1 * Y1 ≤ (X0 + X1) * (Y0 + Y1) - X0 * Y0 := by
  have e : (X0 + X1) * (Y0 + Y1) = X0 * Y0 + X0 * Y1 + X1 * Y0 + X1 * Y1 := by rw [Nat.add_mul, Nat.mul_add, Nat.mul_add]; omega
  have e2 : (X0 + X1) * (Y0 + Y1) - X0 * Y0 - X1 * Y1 = X0 * Y1 + X1 * Y0 := by omega
  have e3 : (X0 + P * X1) * (Y0 + P * Y1) = X0 * Y0 + P * (X0 * Y1 + X1 * Y0) + P * P * (X1 * Y1) := by
    simp only [Nat.add_mul, Nat.mul_add]
    rw [Nat.mul_left_comm X0 P Y1, Nat.mul_assoc P X1 Y0, show P * X1 * (P * Y1) = P * P * (X1 * Y1) by rw [Nat.mul_mul_mul_comm]]
    omega
  rw [e2, e3]
  exact ⟨rfl, by omega, by omega⟩
theorem prod_lt {x y : List Nat} (hx : Lim 18446744073709551616 x) (hy : Lim 18446744073709551616 y) : val 18446744073709551616 x * val 18446744073709551616 y < 18446744073709551616 ^ (x.length + y.length) := by
  rw [Nat.pow_add]
  exact Nat.mul_lt_mul'' (val_lt hx) (val_lt hy)

theorem halved_spec : ∀ (m0 : Nat) (t u : Tok) (a b : List Nat) (c : Nat), a.length + b.length = m0 → Lim 18446744073709551616 a → Lim 18446744073709551616 b → a.length ≤ 549755813888 → b.length ≤ 549755813888 →
    VSpec Tryz.prog F.mul_halved c [nats t a, nats u b, iv 40] (fun r c' => RawR c c' (val 18446744073709551616 a * val 18446744073709551616 b) (a.length + b.length + 1) r) := by
  intro m0
  induction m0 using Nat.strongRecOn with
  | _ m0 ih =>
  intro t u a b c hN ha hb hna hnb
  refine spec_mk hm E.mul_halved B.mul_halved K.mul_halved Q.mul_halved (by rw [N.mul_halved]; simp) ?_
  unfold C.mul_halved R.mul_halved
  refine xG ?_
  refine v_cut (fun S => ∃ t u x y, S.ρ 0 = nats t x ∧ S.ρ 1 = nats u y ∧ S.ρ 2 = iv 40 ∧ Lim 18446744073709551616 x ∧ Lim 18446744073709551616 y ∧ y.length ≤ x.length ∧ x.length + y.length = m0 ∧ x.length ≤ 549755813888 ∧ val 18446744073709551616 x * val 18446744073709551616 y = val 18446744073709551616 a * val 18446744073709551616 b ∧ S.σ = noBlk ∧ S.c = c) ?_ ?_
  · refine xR ?_
    refine ⟨fun g => ?_, fun g => ?_⟩
    · refine xR ?_
      exact ⟨u, t, b, a, rfl, rfl, hb, ha, by omega, by omega, by omega, Nat.mul_comm _ _⟩
    · refine vwp_skip ?_
      refine xS ?_
      exact ⟨t, u, a, b, rfl, rfl, ha, hb, by omega, hN, by omega, rfl⟩
  rintro ⟨ρ, σ, c1⟩ ⟨t, u, x, y, h0, h1, h2, hx, hy, hyx, hN2, hxn, hv, hσ, hc1⟩
  dsimp only at h0 h1 h2 hσ hc1
  subst hσ hc1
  rw [← hv, hN, ← hN2]
  by_cases g1 : (y.length : Int) < 40
  · refine xRF (jn h0 (jn h1 (jn h2 g1))) ?_
    refine s_call (school_spec t u x y c1 hx hy (by omega) (by omega)) (yMF (jn h0 h1)) ?_
    rintro v c2 hc2 ⟨l, i, rfl, hi1, hi2, hl, hll, hlv⟩
    refine xRF (jn h0 h1) ?_
    exact ⟨l, i, rfl, hi1, hi2, hl, by omega, hlv⟩
  have ek : ((x.length : Int) + 1) / 2 = (((x.length + 1) / 2 : Nat) : Int) := by omega
  have hk1 : (x.length + 1) / 2 ≤ x.length := by omega
  have hk2 : 2 * ((x.length + 1) / 2) ≤ x.length + 1 := by omega
  have hk3 : 20 ≤ (x.length + 1) / 2 := by omega
  have hXY := prod_lt hx hy
  have hXd := val_take_drop 18446744073709551616 ((x.length + 1) / 2) x hk1
  have hx0 : (x.drop 0).take ((x.length + 1) / 2 - 0) = x.take ((x.length + 1) / 2) := by simp
  have hx1 : (x.drop ((x.length + 1) / 2)).take (x.length - (x.length + 1) / 2) = x.drop ((x.length + 1) / 2) := List.take_of_length_le (by simp)
  have hxl : ((x.length + 1) / 2) + (x.length - (x.length + 1) / 2) = x.length := by omega
  generalize (x.length + 1) / 2 = k at *
  have hpow : 18446744073709551616 ^ (x.length + y.length) ≤ 18446744073709551616 ^ (x.length + y.length + 1) := Nat.pow_le_pow_right (by decide) (by omega)
  by_cases g2 : (y.length : Int) ≤ k
  · refine xRF (jn h0 (jn h1 (jn h2 (jn g1 (jn g2 ek))))) ?_
    refine s_mk (n := x.length + y.length + 1) (m := x.length + y.length + 1) (ySrF (jn h0 h1)) (ySrF (jn h0 h1)) (Nat.le_refl _) (by omega) ?_
    refine xRF (jn h0 (jn h1 h2)) ?_
    refine s_call (part_spec t x 0 k _ hx (by omega) (by omega)) yMr ?_
    rintro v c2 hc2 ⟨tk0, l0, rfl, hl0, hl0a, hl0b, hl0v⟩
    rw [hx0] at hl0v
    refine xRF (jn h0 (jn h1 h2)) ?_
    refine s_call (ih _ (by omega) tk0 u l0 y c2 rfl hl0 hy (by omega) (by omega)) yM ?_
    rintro v c3 hc3 ⟨p0, i0, rfl, hi01, hi02, hp0, hp0l, hp0v⟩
    rw [hl0v] at hp0v
    have hroom : val 18446744073709551616 (List.replicate (x.length + y.length + 1) 0) + 18446744073709551616 ^ 0 * val 18446744073709551616 p0 < 18446744073709551616 ^ (x.length + y.length + 1) := by
      rw [val_replicate, Nat.zero_add, Nat.pow_zero, Nat.one_mul, hp0v]
      refine Nat.lt_of_le_of_lt (Nat.mul_le_mul_right _ ?_) (Nat.lt_of_lt_of_le hXY hpow)
      rw [hXd]; exact Nat.le_add_right _ _
    refine xRF (jn h0 (jn h1 h2)) ?_
    refine s_call1 c1 (l := List.replicate (x.length + y.length + 1) 0) yS (fun s hs => by refine xS ?_; rw [if_neg (by omega)]; rfl) (addAt_spec c1 (.id i0) _ p0 0 (x.length + y.length + 1) c3 (some (x.length + y.length + 1)) (Lim.replicate (by decide)) hp0 (by simp) (by omega) (by omega) (by omega) hroom) yMr ?_
    rintro v σ' c4 hc4 ⟨rfl, w, hσ', hwn, hwl, hwv⟩
    rw [hσ']
    rw [val_replicate, Nat.zero_add, Nat.pow_zero, Nat.one_mul, hp0v] at hwv
    refine xRF (jn h0 (jn h1 h2)) ?_
    refine s_call (part_spec t x k x.length _ hx (by omega) (by omega)) yM ?_
    rintro v c5 hc5 ⟨tk1, l1, rfl, hl1, hl1a, hl1b, hl1v⟩
    rw [hx1] at hl1v
    refine xRF (jn h0 (jn h1 h2)) ?_
    refine s_call (ih _ (by omega) tk1 u l1 y c5 rfl hl1 hy (by omega) (by omega)) yM ?_
    rintro v c6 hc6 ⟨p1, i1, rfl, hi11, hi12, hp1, hp1l, hp1v⟩
    rw [hl1v] at hp1v
    have htot : val 18446744073709551616 w + 18446744073709551616 ^ k * val 18446744073709551616 p1 = val 18446744073709551616 x * val 18446744073709551616 y := by
      rw [hwv, hp1v, hXd, Nat.add_mul, Nat.mul_assoc]
    refine xRF (jn h0 (jn h1 h2)) ?_
    refine s_call1 c1 (l := w) yS (fun s hs => by refine xS ?_; rw [if_neg (by omega)]; rfl) (addAt_spec c1 (.id i1) w p1 k (x.length + y.length + 1) c6 (some (x.length + y.length + 1)) hwl hp1 hwn (by omega) (by omega) (by omega) (by rw [htot]; exact Nat.lt_of_lt_of_le hXY hpow)) yM ?_
    rintro v σ' c7 hc7 ⟨rfl, w2, hσ', hw2n, hw2l, hw2v⟩
    rw [hσ']
    rw [htot] at hw2v
    refine xS ?_
    refine v_freeze 8 (t := c1) (off := 0) (n := x.length + y.length + 1) (cap := some (x.length + y.length + 1)) (l := w2) yS yS (by omega) (by omega) ?_
    rw [List.drop_zero, show w2.take (x.length + y.length + 1) = w2 from List.take_of_length_le (by omega)]
    refine xR ?_
    exact ⟨w2, c1, rfl, by omega, by omega, hw2l, by omega, hw2v⟩
  have hYd := val_take_drop 18446744073709551616 k y (by omega)
  have hy0 : (y.drop 0).take (k - 0) = y.take k := by simp
  have hy1 : (y.drop k).take (y.length - k) = y.drop k := List.take_of_length_le (by simp)
  obtain ⟨kar1, kar2, kar3⟩ := kar (val 18446744073709551616 (x.take k)) (val 18446744073709551616 (x.drop k)) (val 18446744073709551616 (y.take k)) (val 18446744073709551616 (y.drop k)) (18446744073709551616 ^ k)
  rw [← hXd, ← hYd] at kar1
  generalize hX0 : val 18446744073709551616 (x.take k) = X0 at *
  generalize hX1 : val 18446744073709551616 (x.drop k) = X1 at *
  generalize hY0 : val 18446744073709551616 (y.take k) = Y0 at *
  generalize hY1 : val 18446744073709551616 (y.drop k) = Y1 at *
  refine xRF (jn h0 (jn h1 (jn h2 (jn g1 (jn g2 ek))))) ?_
  refine s_call (part_spec t x 0 k _ hx (by omega) (by omega)) yMr ?_
  rintro v c2 hc2 ⟨tk2, al, rfl, hal, hala, halb, halv⟩
  rw [hx0, hX0] at halv
  refine xRF (jn h0 (jn h1 h2)) ?_
  refine s_call (part_spec t x k x.length _ hx (by omega) (by omega)) yM ?_
  rintro v c3 hc3 ⟨tk3, ah, rfl, hah, haha, hahb, hahv⟩
  rw [hx1, hX1] at hahv
  refine xRF (jn h0 (jn h1 h2)) ?_
  refine s_call (part_spec u y 0 k _ hy (by omega) (by omega)) yMr ?_
  rintro v c4 hc4 ⟨tk4, bl', rfl, hbl, hbla, hblb, hblv⟩
  rw [hy0, hY0] at hblv
  refine xRF (jn h0 (jn h1 h2)) ?_
  refine s_call (part_spec u y k y.length _ hy (by omega) (by omega)) yM ?_
  rintro v c5 hc5 ⟨tk5, bh, rfl, hbh, hbha, hbhb, hbhv⟩
  rw [hy1, hY1] at hbhv
  refine xRF (jn h0 (jn h1 h2)) ?_
  refine s_call (ih _ (by omega) tk2 tk4 al bl' c5 rfl hal hbl (by omega) (by omega)) (yMF h2) ?_
  rintro v c6 hc6 ⟨low, i1, rfl, hi11, hi12, hlow, hlowl, hlowv⟩
  rw [halv, hblv] at hlowv
  refine xRF (jn h0 (jn h1 h2)) ?_
  refine s_call (ih _ (by omega) tk3 tk5 ah bh c6 rfl hah hbh (by omega) (by omega)) (yMF h2) ?_
  rintro v c7 hc7 ⟨high, i2, rfl, hi21, hi22, hhigh, hhighl, hhighv⟩
  rw [hahv, hbhv] at hhighv
  refine xRF (jn h0 (jn h1 h2)) ?_
  refine s_call (sum_spec tk2 tk3 al ah c7 hal hah (by omega) (by omega)) yM ?_
  rintro v c8 hc8 ⟨sx, i3, rfl, hi31, hi32, hsx, hsxl, hsxv⟩
  rw [halv, hahv] at hsxv
  refine xRF (jn h0 (jn h1 h2)) ?_
  refine s_call (norm_spec (.id i3) sx c8 hsx (by omega)) yM ?_
  rintro v c9 hc9 ⟨t3, rfl, ht3⟩
  have hdx := digs_len_le two64 hsx
  rw [hsxv] at hdx ⊢
  refine xRF (jn h0 (jn h1 h2)) ?_
  refine s_call (sum_spec tk4 tk5 bl' bh c9 hbl hbh (by omega) (by omega)) yM ?_
  rintro v c10 hc10 ⟨sy, i4, rfl, hi41, hi42, hsy, hsyl, hsyv⟩
  rw [hblv, hbhv] at hsyv
  refine xRF (jn h0 (jn h1 h2)) ?_
  refine s_call (norm_spec (.id i4) sy c10 hsy (by omega)) yM ?_
  rintro v c11 hc11 ⟨t4, rfl, ht4⟩
  have hdy := digs_len_le two64 hsy
  rw [hsyv] at hdy ⊢
  refine xRF (jn h0 (jn h1 h2)) ?_
  refine s_call (ih _ (by omega) t3 t4 (digs 18446744073709551616 (X0 + X1)) (digs 18446744073709551616 (Y0 + Y1)) c11 rfl (lim_digs two64 _) (lim_digs two64 _) (by omega) (by omega)) (yMF h2) ?_
  rintro v c12 hc12 ⟨mid, i5, rfl, hi51, hi52, hmid, hmidl, hmidv⟩
  rw [val_digs two64, val_digs two64] at hmidv
  refine xRF (jn h0 (jn h1 h2)) ?_
  refine s_call (less_spec (.id i5) (.id i1) mid low c12 hmid hlow (by omega) (by omega) (by rw [hmidv, hlowv]; exact kar2)) yM ?_
  rintro v c13 hc13 ⟨m1, i6, rfl, hi61, hi62, hm1, hm1l, hm1v⟩
  rw [hmidv, hlowv] at hm1v
  refine xRF (jn h0 (jn h1 h2)) ?_
  refine s_call (less_spec (.id i6) (.id i2) m1 high c13 hm1 hhigh (by omega) (by omega) (by rw [hm1v, hhighv]; exact kar3)) yM ?_
  rintro v c14 hc14 ⟨m2, i7, rfl, hi71, hi72, hm2, hm2l, hm2v⟩
  rw [hm1v, hhighv] at hm2v
  rw [← hm2v, ← hlowv, ← hhighv] at kar1
  have hpow2 : 18446744073709551616 ^ k * 18446744073709551616 ^ k = 18446744073709551616 ^ (2 * k) := by rw [← Nat.pow_add]; congr 1; omega
  rw [hpow2] at kar1
  have hroomT : val 18446744073709551616 low + 18446744073709551616 ^ k * val 18446744073709551616 m2 + 18446744073709551616 ^ (2 * k) * val 18446744073709551616 high < 18446744073709551616 ^ (x.length + y.length + 1) := by
    rw [kar1]; exact Nat.lt_of_lt_of_le hXY hpow
  refine xRF (jn h0 (jn h1 h2)) ?_
  refine s_mk (n := x.length + y.length + 1) (m := x.length + y.length + 1) (ySrF (jn h0 h1)) (ySrF (jn h0 h1)) (Nat.le_refl _) (by omega) ?_
  refine xRF (jn h0 (jn h1 h2)) ?_
  refine s_call1 c14 (l := List.replicate (x.length + y.length + 1) 0) yS (fun s hs => by refine xS ?_; rw [if_neg (by omega)]; rfl) (addAt_spec c14 (.id i1) _ low 0 (x.length + y.length + 1) (c14 + 1) (some (x.length + y.length + 1)) (Lim.replicate (by decide)) hlow (by simp) (by omega) (by omega) (by omega) (by rw [val_replicate, Nat.zero_add, Nat.pow_zero, Nat.one_mul]; omega)) yMr ?_
  rintro v σ' c15 hc15 ⟨rfl, w, hσ', hwn, hwl, hwv⟩
  rw [hσ']
  rw [val_replicate, Nat.zero_add, Nat.pow_zero, Nat.one_mul] at hwv
  refine xRF (jn h0 (jn h1 h2)) ?_
  refine s_call1 c14 (l := w) yS (fun s hs => by refine xS ?_; rw [if_neg (by omega)]; rfl) (addAt_spec c14 (.id i7) w m2 k (x.length + y.length + 1) c15 (some (x.length + y.length + 1)) hwl hm2 hwn (by omega) (by omega) (by omega) (by rw [hwv]; omega)) yM ?_
  rintro v σ' c16 hc16 ⟨rfl, w2, hσ', hw2n, hw2l, hw2v⟩
  rw [hσ']
  rw [hwv] at hw2v
  have e2k : 2 * (k : Int) = ((2 * k : Nat) : Int) := by omega
  refine xRF (jn h0 (jn h1 (jn h2 e2k))) ?_
  refine s_call1 c14 (l := w2) yS (fun s hs => by refine xS ?_; rw [if_neg (by omega)]; rfl) (addAt_spec c14 (.id i2) w2 high (2 * k) (x.length + y.length + 1) c16 (some (x.length + y.length + 1)) hw2l hhigh hw2n (by omega) (by omega) (by omega) (by rw [hw2v]; exact hroomT)) yM ?_
  rintro v σ' c17 hc17 ⟨rfl, w3, hσ', hw3n, hw3l, hw3v⟩
  rw [hσ']
  rw [hw2v, kar1] at hw3v
  refine xS ?_
  refine v_freeze 16 (t := c14) (off := 0) (n := x.length + y.length + 1) (cap := some (x.length + y.length + 1)) (l := w3) yS yS (by omega) (by omega) ?_
  rw [List.drop_zero, show w3.take (x.length + y.length + 1) = w3 from List.take_of_length_le (by omega)]
  refine xR ?_
  exact ⟨w3, c14, rfl, by omega, by omega, hw3l, by omega, hw3v⟩
end Go.Proofs.YtplofcianjnkmaaGreatDoor
set_option linter.unusedSimpArgs false
set_option linter.unusedVariables false
set_option maxRecDepth 100000
set_option maxHeartbeats 4000000
namespace Go.Proofs.YtplofcianjnkmaaGreatDoor
open Go.VM

theorem mfits_spec (t : Tok) (l : List Nat) (c : Nat) (hl : Lim 18446744073709551616 l) (hn : l.length ≤ 4398046511104) : VSpec Tryz.prog F.mul_fits c [nats t l] (fun r c' => Told c c' (val 18446744073709551616 l) r) := by
  refine spec_mk hm E.mul_fits B.mul_fits K.mul_fits Q.mul_fits (by rw [N.mul_fits]; simp) ?_
  unfold C.mul_fits R.mul_fits
  have hlen := digs_len_le two64 hl
  refine xR ?_
  refine s_call (norm_spec t l c hl hn) yM ?_
  rintro v c2 hc2 ⟨t2, rfl, ht2⟩
  refine xR ?_
  refine s_call (length_spec t2 (digs 18446744073709551616 (val 18446744073709551616 l)) c2 (lim_digs two64 _) (by omega)) yM ?_
  rintro v c3 hc3 rfl
  rw [val_digs two64]
  refine xR ?_
  refine ⟨fun g => ?_, fun g => ?_⟩
  · refine xR ?_
    exact .inr ⟨by omega, rfl⟩
  · refine xR ?_
    exact .inl ⟨by omega, t2, rfl, ht2.mono (Nat.le_refl _) hc3⟩

theorem great_spec (t u : Tok) (a b : List Nat) (c : Nat) (ha : Lim 18446744073709551616 a) (hb : Lim 18446744073709551616 b) (hna : a.length ≤ 1099511627776) (hnb : b.length ≤ 1099511627776) :
    VSpec Tryz.prog F.mul_great c [nats t a, nats u b] (fun r c' => ∃ g, r = bv g ∧ (g = true → 67108864 < bl (val 18446744073709551616 a * val 18446744073709551616 b)) ∧ (g = false → a.length + b.length ≤ 4398046511104)) := by
  refine spec_mk hm E.mul_great B.mul_great K.mul_great Q.mul_great (by rw [N.mul_great]; simp) ?_
  unfold C.mul_great R.mul_great
  have h1 : bl (val 18446744073709551616 a) ≤ 64 * a.length := by
    refine bl_le ?_
    have := val_lt ha
    rw [pow64] at this
    exact this
  have h2 : bl (val 18446744073709551616 b) ≤ 64 * b.length := by
    refine bl_le ?_
    have := val_lt hb
    rw [pow64] at this
    exact this
  refine xR ?_
  refine s_call (length_spec t a c ha (by omega)) yM ?_
  rintro v c2 hc2 rfl
  refine xR ?_
  refine s_call (length_spec u b c2 hb (by omega)) yM ?_
  rintro v c3 hc3 rfl
  by_cases g1 : (0 : Int) < bl (val 18446744073709551616 a)
  · by_cases g2 : (0 : Int) < bl (val 18446744073709551616 b)
    · refine xRF (jn g1 g2) ?_
      refine ⟨_, rfl, fun h => ?_, fun _ => by omega⟩
      have h := of_decide_eq_true h
      have p1 := le_of_bl (n := val 18446744073709551616 a) (by rcases Nat.eq_zero_or_pos (val 18446744073709551616 a) with e | e; rw [e] at g1; simp [bl] at g1; exact e)
      have p2 := le_of_bl (n := val 18446744073709551616 b) (by rcases Nat.eq_zero_or_pos (val 18446744073709551616 b) with e | e; rw [e] at g2; simp [bl] at g2; exact e)
      have p3 := Nat.mul_le_mul p1 p2
      rw [← Nat.pow_add] at p3
      have p4 : ¬ bl (val 18446744073709551616 a * val 18446744073709551616 b) ≤ bl (val 18446744073709551616 a) - 1 + (bl (val 18446744073709551616 b) - 1) := fun h => by
        have := lt_of_bl h
        omega
      omega
    · refine xRF (jn g1 g2) ?_
      exact ⟨_, rfl, (fun h => by cases h), fun _ => by omega⟩
  · refine xRF g1 ?_
    exact ⟨_, rfl, (fun h => by cases h), fun _ => by omega⟩
end Go.Proofs.YtplofcianjnkmaaGreatDoor
set_option linter.unusedSimpArgs false
set_option linter.unusedVariables false
set_option maxRecDepth 100000
set_option maxHeartbeats 4000000
namespace Go.Proofs.YtplofcianjnkmaaGreatDoor
open Go.VM

theorem mul1_spec (t u : Tok) (a b : List Nat) (c : Nat) (ha : Lim 18446744073709551616 a) (hb : Lim 18446744073709551616 b) (hna : a.length ≤ 549755813888) (hnb : b.length ≤ 549755813888) :
    VSpec Tryz.prog F.mul_Mul_1 c [nats t a, nats u b] (fun r c' => RawR c c' (val 18446744073709551616 a * val 18446744073709551616 b) (a.length + b.length + 1) r) := by
  refine spec_mk hm E.mul_Mul_1 B.mul_Mul_1 K.mul_Mul_1 Q.mul_Mul_1 (by rw [N.mul_Mul_1]; simp) ?_
  unfold C.mul_Mul_1 R.mul_Mul_1
  refine xR ?_
  refine s_call (halved_spec _ t u a b c rfl ha hb hna hnb) yM ?_
  rintro v c2 hc2 ⟨l, i, rfl, h1, h2, h3, h4, h5⟩
  refine xR ?_
  exact ⟨l, i, rfl, h1, h2, h3, h4, h5⟩

theorem product_spec (t u : Tok) (a b : List Nat) (c : Nat) (ha : Lim 18446744073709551616 a) (hb : Lim 18446744073709551616 b) (hna : a.length ≤ 549755813888) (hnb : b.length ≤ 549755813888) :
    VSpec Tryz.prog F.mul_product c [nats t a, nats u b, .lit (.func (.func F.mul_Mul_1) #[] #[])] (fun r c' => Told c c' (val 18446744073709551616 a * val 18446744073709551616 b) r) := by
  refine spec_mk hm E.mul_product B.mul_product K.mul_product Q.mul_product (by rw [N.mul_product]; simp) ?_
  unfold C.mul_product R.mul_product
  have hla := digs_len_le two64 ha
  have hlb := digs_len_le two64 hb
  refine xR ?_
  refine s_call (norm_spec t a c ha (by omega)) yM ?_
  rintro v c2 hc2 ⟨t2, rfl, ht2⟩
  refine xR ?_
  refine s_call (norm_spec u b c2 hb (by omega)) yM ?_
  rintro v c3 hc3 ⟨u2, rfl, hu2⟩
  have hx := lim_digs two64 (val 18446744073709551616 a)
  have hy := lim_digs two64 (val 18446744073709551616 b)
  have va := val_digs two64 (val 18446744073709551616 a)
  have vb := val_digs two64 (val 18446744073709551616 b)
  refine xR ?_
  refine s_call (great_spec t2 u2 _ _ c3 hx hy (by omega) (by omega)) yM ?_
  rintro v c4 hc4 ⟨g, rfl, hg1, hg2⟩
  rw [va, vb] at hg1
  cases g with
  | true =>
    refine xR ?_
    exact .inr ⟨hg1 rfl, rfl⟩
  | false =>
    refine xR ?_
    refine s_callv (f := F.mul_Mul_1) yS ⟨_, _, E.mul_Mul_1, by kernel_rfl, B.mul_Mul_1⟩ (mul1_spec t2 u2 _ _ c4 hx hy (by omega) (by omega)) yM ?_
    rintro v c5 hc5 ⟨l, i, rfl, h1, h2, h3, h4, h5⟩
    rw [va, vb] at h5
    refine xR ?_
    refine s_call (mfits_spec (.id i) l c5 h3 (by omega)) yM ?_
    rintro v c6 hc6 (⟨hb1, t6, rfl, ht6⟩ | ⟨hb1, rfl⟩)
    · rw [h5] at hb1 ⊢
      refine xR ?_
      exact .inl ⟨hb1, t6, rfl, ht6.mono (by omega) (Nat.le_refl _)⟩
    · rw [h5] at hb1
      refine xR ?_
      exact .inr ⟨hb1, rfl⟩

theorem mul_spec (t u : Tok) (a b : List Nat) (c : Nat) (ha : Lim 18446744073709551616 a) (hb : Lim 18446744073709551616 b) (hna : a.length ≤ 549755813888) (hnb : b.length ≤ 549755813888) :
    VSpec Tryz.prog F.mul_Mul c [nats t a, nats u b] (fun r c' => Told c c' (val 18446744073709551616 a * val 18446744073709551616 b) r) := by
  refine spec_mk hm E.mul_Mul B.mul_Mul K.mul_Mul Q.mul_Mul (by rw [N.mul_Mul]; simp) ?_
  unfold C.mul_Mul R.mul_Mul
  refine xR ?_
  refine s_call (product_spec t u a b c ha hb hna hnb) yM ?_
  rintro v c2 hc2 (⟨hb1, t6, rfl, ht6⟩ | ⟨hb1, rfl⟩)
  · refine xR ?_
    exact .inl ⟨hb1, t6, rfl, ht6⟩
  · refine xR ?_
    exact .inr ⟨hb1, rfl⟩

end Go.Proofs.YtplofcianjnkmaaGreatDoor
set_option linter.unusedSimpArgs false
set_option linter.unusedVariables false
set_option maxRecDepth 100000
set_option maxHeartbeats 4000000
namespace Go.Proofs.YtplofcianjnkmaaGreatDoor
open Go.VM

end Go.Proofs.YtplofcianjnkmaaGreatDoor
set_option linter.unusedSimpArgs false
set_option linter.unusedVariables false
set_option maxRecDepth 100000
set_option maxHeartbeats 4000000
namespace Go.Proofs.YtplofcianjnkmaaGreatDoor
open Go.VM

end Go.Proofs.YtplofcianjnkmaaGreatDoor
set_option linter.unusedVariables false
set_option maxRecDepth 20000
namespace Go.VM
section
variable {B m T lowU W lowV U V q : Nat}
end
theorem addb_step {b i x y c c' d : Nat} {w : List Nat} {A P : Nat} (hw : w.length = i) (h : val b w + b ^ i * c = A + P) (hd : d + b * c' = y + x + c) :
    val b (w ++ [d]) + b ^ (i + 1) * c' = (A + b ^ i * y) + (P + b ^ i * x) := by
  rw [val_append, hw, val, val, Nat.mul_zero, Nat.add_zero, Nat.pow_succ]
  have e : b ^ i * d + b ^ i * b * c' = b ^ i * y + b ^ i * x + b ^ i * c := by rw [Nat.mul_assoc, ← Nat.mul_add, hd, Nat.mul_add, Nat.mul_add]
  omega
end Go.VM
namespace Go.VM
end Go.VM
namespace Go.VM
end Go.VM
namespace Go.VM
end Go.VM
namespace Go.VM
end Go.VM
set_option linter.unusedSimpArgs false
set_option linter.unusedVariables false
set_option maxRecDepth 100000
set_option maxHeartbeats 8000000
namespace Go.Proofs.YtplofcianjnkmaaGreatDoor
open Go.VM

end Go.Proofs.YtplofcianjnkmaaGreatDoor
set_option linter.unusedSimpArgs false
set_option linter.unusedVariables false
set_option maxRecDepth 100000
set_option maxHeartbeats 8000000
namespace Go.Proofs.YtplofcianjnkmaaGreatDoor
open Go.VM

def Kn (c : Nat) (t : Tok) : Prop := t = .nil ∨ ∃ i, (t = .id i ∨ t = .sub i) ∧ i < c
theorem Kn.thaw {c t : Nat} {tk : Tok} (h : Kn c tk) (hc : c ≤ t) (l : List Nat) : V.thaw t (nats tk l) = nats tk l := by
  rcases h with rfl | ⟨i, rfl | rfl, hi⟩
  · exact thaw_nil t l
  · exact thaw_id (by omega) l
  · exact thaw_sub (by omega) l
theorem Kn.mono {c d : Nat} {t : Tok} (h : Kn c t) (hc : c ≤ d) : Kn d t := by
  rcases h with rfl | ⟨i, h, hi⟩
  · exact .inl rfl
  · exact .inr ⟨i, h, by omega⟩
end Go.Proofs.YtplofcianjnkmaaGreatDoor
set_option linter.unusedVariables false
namespace Go.VM
def IsRoot (A k r : Nat) : Prop := r ^ k ≤ A ∧ A < (r + 1) ^ k
theorem bl_sum {a b m : Nat} (ha : a < 2 ^ m) (hb : b < 2 ^ m) : a + b < 2 ^ (m + 1) := by rw [Nat.pow_succ]; omega
end Go.VM
set_option linter.unusedSimpArgs false
set_option linter.unusedVariables false
set_option maxRecDepth 100000
set_option maxHeartbeats 8000000
namespace Go.Proofs.YtplofcianjnkmaaGreatDoor
open Go.VM

def RootR (c c' A0 k : Nat) (r : V) : Prop := (bl A0 ≤ 67108864 ∧ ∃ x t1 t2, IsRoot A0 k x ∧ r = .tup [nats t1 (digs 18446744073709551616 x), nats t2 (digs 18446744073709551616 (A0 - x ^ k)), iv 0] ∧ Tk c c' t1 ∧ Tk c c' t2) ∨ (67108864 < bl A0 ∧ r = .tup [nil1, nil1, iv 3])

def Apt (t u : Tok) : Prop := ∀ i, t = .id i → u = .id i → False
theorem Apt.nil {t : Tok} : Apt t .nil := fun i _ h => by cases h
theorem Apt.of {a b c d : Nat} {t u : Tok} (ht : Tk a b t) (hu : Tk c d u) (h : b ≤ c) : Apt t u := fun i e e' => by
  rcases ht with rfl | ⟨j, rfl, h1, h2⟩
  · cases e
  · rcases hu with rfl | ⟨k, rfl, h3, h4⟩
    · cases e'
    · cases e; cases e'; omega
def RootS (c c' A0 k : Nat) (r : V) : Prop := (bl A0 ≤ 67108864 ∧ ∃ x t1 t2, IsRoot A0 k x ∧ r = .tup [nats t1 (digs 18446744073709551616 x), nats t2 (digs 18446744073709551616 (A0 - x ^ k)), iv 0] ∧ Tk c c' t1 ∧ Tk c c' t2 ∧ Apt t1 t2) ∨ (67108864 < bl A0 ∧ r = .tup [nil1, nil1, iv 3])
theorem RootS.R {c c' A0 k : Nat} {r : V} (h : RootS c c' A0 k r) : RootR c c' A0 k r := by
  rcases h with ⟨hb, x, t1, t2, hx, hr, h1, h2, _⟩ | h
  · exact .inl ⟨hb, x, t1, t2, hx, hr, h1, h2⟩
  · exact .inr h

end Go.Proofs.YtplofcianjnkmaaGreatDoor
set_option linter.unusedSimpArgs false
set_option linter.unusedVariables false
set_option maxRecDepth 100000
set_option maxHeartbeats 8000000
namespace Go.Proofs.YtplofcianjnkmaaGreatDoor
open Go.VM
theorem two32 : 2 ≤ 4294967296 := by decide

section
variable {P : Program} {dr : Bool} {c0 : Nat} {ρ : Nat → V} {σ : Nat → Option Blk} {c i : Nat} {r : List VO} {K : VS → Prop}
theorem s_bsl2 {x y : X} {n m : Nat} (h : x.ev ρ = nv n) (h' : y.ev ρ = nv m) (hk : wps P dr c0 r ⟨upd ρ i (nats (.id c) [n, m]), σ, c + 1⟩ K) : wps P dr c0 (⟨some i, .bsl true 1 2 [.int .u64 0] [(0, (1, x)), (1, (1, y))], none⟩ :: r) ⟨ρ, σ, c⟩ K := by
  refine s_eff rfl (by intros; exact fun h => by cases h) (by intros; exact fun h => by cases h) ⟨_, _, _, none, .bsl (cs := [nv n, nv m]) ?_, hk⟩
  simp only [partsOf, List.map, h, h']
  rfl
theorem s_appfit {x y : X} {t n cap : Nat} {w rest ys : List Nat} {u : Tok} (hx : x.ev ρ = .buf t 0 n (some cap) 1) (ht : σ t = nblk (w ++ rest)) (hw : w.length = n) (hy : y.ev ρ = nats u ys) (h1 : n + ys.length ≤ cap) (h2 : ys.length ≤ rest.length)
    (hk : wps P dr c0 r ⟨upd ρ i (.buf t 0 (n + ys.length) (some cap) 1), supd σ t (nblk ((w ++ ys) ++ rest.drop ys.length)), c⟩ K) : wps P dr c0 (⟨some i, .app 1 8 [.int .u64 0] x y, none⟩ :: r) ⟨ρ, σ, c⟩ K := by
  have hc : vcells 1 σ (y.ev ρ) = some (ys.map nv) := by rw [hy]; cases u <;> rfl
  refine s_eff rfl (by intros; exact fun h => by cases h) (by intros; exact fun h => by cases h) ⟨_, _, _, none, .appFit (k := ys.length) hx ht hc (by simp) h1 (by simp; omega), ?_⟩
  have e : putCells ((w ++ rest).map nv) (n * 1) (ys.map nv) = ((w ++ ys) ++ rest.drop ys.length).map nv := by
    rw [Nat.mul_one, putCells_all _ _ _ (by simp; omega)]
    rw [← hw]
    simp [List.map_drop, List.drop_append]
  rw [e]
  exact hk
end

theorem norm32_spec (t : Tok) (l : List Nat) (c : Nat) (hl : Lim 4294967296 l) (hn : l.length ≤ 4398046511104) : VSpec Tryz.prog F.surdref01_norm c [nats t l] (fun r _ => r = nats t (digs 4294967296 (val 4294967296 l))) := by
  rw [← trim_digs two32 hl]
  refine spec_mk hm E.surdref01_norm B.surdref01_norm K.surdref01_norm Q.surdref01_norm (by rw [N.surdref01_norm]; simp) ?_
  unfold C.surdref01_norm R.surdref01_norm
  refine xR ?_
  refine v_loop (fun S => ∃ n : Nat, S.ρ 0 = nats t l ∧ S.ρ 3 = iv (n : Int) ∧ n ≤ l.length ∧ l.take n = trimL l ∧ S.σ = noBlk ∧ S.c = c) ?_ ?_
  · refine vwp_loop (fun n S => S.ρ 0 = nats t l ∧ S.ρ 3 = iv (n : Int) ∧ n ≤ l.length ∧ trimL (l.take n) = trimL l ∧ S.σ = noBlk ∧ S.c = c) l.length ?_ ?_
    · refine ⟨?_, ?_⟩
      · simp only [vm, ite_true, ite_false, eq_self, reduceIte, Nat.reduceEqDiff, Option.map]
      · simp only [vm, ite_true, ite_false, eq_self, reduceIte, Nat.reduceEqDiff, Option.map, List.take_length]
        (repeat' apply And.intro) <;> first | rfl | omega | assumption
    rintro n ⟨ρ, σ, k⟩ ⟨h0, h3, hn2, ht, hσ, hk⟩
    dsimp only at h0 h3 hσ hk
    subst hσ hk
    rcases Nat.eq_zero_or_pos n with rfl | hp
    · have g : ¬ (0 : Int) < ((0 : Nat) : Int) := by omega
      refine xRF (jn h0 (jn h3 g)) ?_
      exact ⟨0, rfl, by omega, by rw [← ht]; rfl⟩
    · obtain ⟨i, rfl⟩ : ∃ i, n = i + 1 := ⟨n - 1, by omega⟩
      have g : (0 : Int) < ((i + 1 : Nat) : Int) := by omega
      have e1 : (((i + 1 : Nat) : Int) - 1) = (i : Int) := by omega
      have hts := take_snoc (l := l) (i := i) (by omega)
      rw [hts] at ht
      by_cases gz : l.getD i 0 = 0
      · rw [gz, trimL_zero] at ht
        refine xRF (jn h0 (jn h3 (jn g (jn e1 gz)))) ?_
        exact ⟨i, by omega, rfl, by omega, ht⟩
      · rw [trimL_pos _ _ gz] at ht
        refine xRF (jn h0 (jn h3 (jn g (jn e1 gz)))) ?_
        exact ⟨i + 1, rfl, by omega, by rw [hts]; exact ht⟩
  rintro ⟨ρ, σ, k⟩ ⟨n, h0, h3, hn2, ht, hσ, hk⟩
  dsimp only at h0 h3 hσ hk
  subst hσ hk
  refine xRF (jn h0 h3) ?_
  rw [ht]

theorem of_spec (t : Tok) (a : List Nat) (c : Nat) (ha : Lim 18446744073709551616 a) (hna : a.length ≤ 1099511627776) :
    VSpec Tryz.prog F.surdref01_Of c [nats t a] (fun r c' => ∃ i, r = nats (.id i) (digs 4294967296 (val 18446744073709551616 a)) ∧ c ≤ i ∧ i < c') := by
  refine spec_mk hm E.surdref01_Of B.surdref01_Of K.surdref01_Of Q.surdref01_Of (by rw [N.surdref01_Of]; simp) ?_
  unfold C.surdref01_Of R.surdref01_Of
  refine xR ?_
  refine s_mk (n := 0) (m := 2 * a.length) ySr ySr (by omega) (by omega) ?_
  refine xR ?_
  refine v_loop (fun S => ∃ w, w.length = 2 * a.length ∧ Lim 4294967296 w ∧ val 4294967296 w = val 18446744073709551616 a ∧ S.ρ 3 = .buf c 0 (2 * a.length) (some (2 * a.length)) 1 ∧ S.σ = supd noBlk c (nblk w) ∧ c + 1 ≤ S.c) ?_ ?_
  · refine vwp_loop (fun k S => ∃ i w, k = a.length - i ∧ i ≤ a.length ∧ w.length = 2 * i ∧ Lim 4294967296 w ∧ val 4294967296 w = val 18446744073709551616 (a.take i) ∧ S.ρ 10 = nats t a ∧ S.ρ 11 = iv a.length ∧ S.ρ 12 = iv i ∧ S.ρ 3 = .buf c 0 (2 * i) (some (2 * a.length)) 1 ∧ S.σ = supd noBlk c (nblk (w ++ List.replicate (2 * a.length - 2 * i) 0)) ∧ c + 1 ≤ S.c) a.length ?_ ?_
    · refine ⟨0, [], by omega, by omega, ?_⟩
      refine xS ?_
      (repeat' apply And.intro) <;> first | rfl | omega | assumption | exact Lim.nil | (simp [val]; done)
    rintro k ⟨ρ2, σ, c4⟩ ⟨i, w, hk, hi, hw, hlw, hinv, h10, h11, h12, h3, hσ, hc4⟩
    dsimp only at h10 h11 h12 h3 hσ hc4
    subst hσ
    by_cases g : (i : Int) < a.length
    · have hi' : i < a.length := by omega
      have hxi := ha.getD (i := i) (by decide)
      have hval := val_take (b := 18446744073709551616) hi'
      refine xRF (jn h10 (jn h11 (jn h12 (jn h3 g)))) ?_
      have hq : a.getD i 0 / 4294967296 % 18446744073709551616 = a.getD i 0 / 4294967296 := Nat.mod_eq_of_lt (by omega)
      refine s_bsl2 (n := a.getD i 0 % 4294967296) (m := a.getD i 0 / 4294967296) yS (ySF hq) ?_
      refine s_appfit (t := c) (n := 2 * i) (cap := 2 * a.length) (w := w) (rest := List.replicate (2 * a.length - 2 * i) 0) (u := .id c4) (ys := [a.getD i 0 % 4294967296, a.getD i 0 / 4294967296]) yS yS hw yS (by simp; omega) (by simp; omega) ?_
      have hdrop : (List.replicate (2 * a.length - 2 * i) 0).drop [a.getD i 0 % 4294967296, a.getD i 0 / 4294967296].length = List.replicate (2 * a.length - 2 * (i + 1)) 0 := by
        rw [List.drop_replicate]; congr 1 <;> first | omega | (simp; done) | (simp; omega)
      have hlen2 : 2 * i + [a.getD i 0 % 4294967296, a.getD i 0 / 4294967296].length = 2 * (i + 1) := by simp; omega
      rw [hdrop, hlen2]
      refine xRF (jn h10 (jn h11 (jn h12 h3))) ?_
      have hv : val 4294967296 (w ++ [a.getD i 0 % 4294967296, a.getD i 0 / 4294967296]) = val 18446744073709551616 (a.take (i + 1)) := by
        rw [val_append, hw, hinv, hval, pow32, pow64, show 32 * (2 * i) = 64 * i by omega]
        congr 1
        congr 1
        simp only [val]
        omega
      refine ⟨a.length - (i + 1), by omega, i + 1, w ++ [a.getD i 0 % 4294967296, a.getD i 0 / 4294967296], ?_⟩
      (repeat' apply And.intro) <;> first | rfl | omega | assumption | (simp [hw]; done) | (simp [hw]; omega) | exact hlw.append (.cons (Nat.mod_lt _ (by decide)) (.cons (by omega) .nil)) | exact hv
    · have hi' : i = a.length := by omega
      subst hi'
      refine xRF (jn h10 (jn h11 (jn h12 (jn h3 g)))) ?_
      rw [List.take_length] at hinv
      refine ⟨w, ?_⟩
      have e0 : w ++ List.replicate (2 * a.length - 2 * a.length) 0 = w := by simp
      rw [e0]
      (repeat' apply And.intro) <;> first | rfl | omega | assumption
  rintro ⟨ρ3, σ, c5⟩ ⟨w, hw, hlw, hvw, h3, hσ, hc5⟩
  dsimp only at h3 hσ hc5
  subst hσ
  refine v_freeze 3 (t := c) (off := 0) (n := 2 * a.length) (cap := some (2 * a.length)) (l := w) (ySF h3) yS (by omega) (by omega) ?_
  rw [List.drop_zero, show w.take (2 * a.length) = w from List.take_of_length_le (by omega)]
  refine xR ?_
  refine s_call (norm32_spec (.id c) w c5 hlw (by omega)) yM ?_
  rintro v c6 hc6 rfl
  rw [hvw]
  refine xR ?_
  exact ⟨c, rfl, by omega, by omega⟩

theorem int_spec (n c : Nat) (hn : n < 9223372036854775808) : VSpec Tryz.prog F.surdref01_Int c [iv n] (fun r c' => ∃ i, r = nats (.id i) (digs 4294967296 n) ∧ c ≤ i ∧ i < c') := by
  refine spec_mk hm E.surdref01_Int B.surdref01_Int K.surdref01_Int Q.surdref01_Int (by rw [N.surdref01_Int]; simp) ?_
  unfold C.surdref01_Int R.surdref01_Int
  refine xR ?_
  refine s_bsl1 (n := n) yS ?_
  have hl : Lim 18446744073709551616 [n] := .cons (by omega) .nil
  refine s_call (of_spec (.id c) [n] (c + 1) hl (by simp)) yM ?_
  rintro v c1 hc1 ⟨i, rfl, hi1, hi2⟩
  have e : val 18446744073709551616 [n] = n := by simp [val]
  rw [e]
  refine xR ?_
  exact ⟨i, rfl, by omega, by omega⟩
end Go.Proofs.YtplofcianjnkmaaGreatDoor
set_option linter.unusedSimpArgs false
set_option linter.unusedVariables false
set_option maxRecDepth 100000
set_option maxHeartbeats 8000000
namespace Go.Proofs.YtplofcianjnkmaaGreatDoor
open Go.VM

theorem bl_div2 {v : Nat} (h : 0 < v) : bl v = bl (v / 2) + 1 := by
  rcases Nat.lt_or_ge v 2 with g | g
  · have : v = 1 := by omega
    subst this
    rfl
  · have := bl_shift (x := v) (k := 1) (by simpa using g)
    rw [Nat.pow_one] at this
    omega

theorem len_spec (t : Tok) (n c : Nat) (hn : (digs 4294967296 n).length ≤ 4398046511104) : VSpec Tryz.prog F.surdref01_Num_Len c [nats t (digs 4294967296 n)] (fun r _ => r = iv (bl n)) := by
  refine spec_mk hm E.surdref01_Num_Len B.surdref01_Num_Len K.surdref01_Num_Len Q.surdref01_Num_Len (by rw [N.surdref01_Num_Len]; simp) ?_
  unfold C.surdref01_Num_Len R.surdref01_Num_Len
  by_cases g : digs 4294967296 n = []
  · have hz := (digs_eq_nil two32).1 g
    rw [g]
    have e : (([] : List Nat).length : Int) = 0 := rfl
    refine xRF e ?_
    rw [hz]; rfl
  obtain ⟨m, x, hmx⟩ := snoc_of_ne g
  obtain ⟨hx0, hx1, hbl⟩ := bl_digs32 hmx
  rw [hmx] at hn ⊢
  have hlen : (m ++ [x]).length = m.length + 1 := by simp
  rw [hlen] at hn
  have e0 : ¬ ((m.length + 1 : Nat) : Int) = 0 := by omega
  have e1 : ((m.length + 1 : Nat) : Int) - 1 = (m.length : Int) := by omega
  have hg : (m ++ [x]).getD m.length 0 = x := by simp
  rw [hbl]
  refine xRF (jn hlen (jn e0 (jn e1 hg))) ?_
  refine v_loop (fun S => S.ρ 3 = iv ((32 * m.length + bl x : Nat) : Int) ∧ S.σ = noBlk ∧ S.c = c) ?_ ?_
  · refine vwp_loop (fun v S => ∃ k, bl x = k + bl v ∧ v ≤ x ∧ S.ρ 3 = iv ((32 * m.length + k : Nat) : Int) ∧ S.ρ 4 = nv v ∧ S.σ = noBlk ∧ S.c = c) x ?_ ?_
    · refine ⟨0, by omega, Nat.le_refl _, ?_⟩
      refine xS ?_
      (repeat' apply And.intro) <;> first | rfl | omega | assumption | (congr 1; omega)
    rintro v ⟨ρ, σ, c1⟩ ⟨k, hk, hvx, h3, h4, hσ, hc1⟩
    dsimp only at h3 h4 hσ hc1
    subst hσ hc1
    have hbx : bl x ≤ 32 := bl_le hx1
    rcases Nat.eq_zero_or_pos v with rfl | hv
    · have g1 : ¬ 0 < 0 := by omega
      refine xRF (jn h3 (jn h4 g1)) ?_
      rw [bl_zero] at hk
      rw [hk]; rfl
    · have hd := bl_div2 hv
      have e2 : ((32 * m.length + k : Nat) : Int) + 1 = ((32 * m.length + (k + 1) : Nat) : Int) := by omega
      have e3 : v / 2 % 18446744073709551616 = v / 2 := Nat.mod_eq_of_lt (by omega)
      refine xRF (jn h3 (jn h4 (jn hv (jn e2 e3)))) ?_
      refine ⟨v / 2, by omega, k + 1, by omega, by omega, ?_⟩
      (repeat' apply And.intro) <;> first | rfl | omega | assumption
  rintro ⟨ρ, σ, c1⟩ ⟨h3, hσ, hc1⟩
  dsimp only at h3 hσ hc1
  subst hσ hc1
  refine xRF h3 ?_
  exact Nat.le_refl _

theorem cmp_spec (t u : Tok) (m n c : Nat) (hm1 : (digs 4294967296 m).length ≤ 4398046511104) (hn1 : (digs 4294967296 n).length ≤ 4398046511104) : VSpec Tryz.prog F.surdref01_Cmp c [nats t (digs 4294967296 m), nats u (digs 4294967296 n)] (fun r _ => r = iv (cmpI m n)) := by
  refine spec_mk hm E.surdref01_Cmp B.surdref01_Cmp K.surdref01_Cmp Q.surdref01_Cmp (by rw [N.surdref01_Cmp]; simp) ?_
  unfold C.surdref01_Cmp R.surdref01_Cmp
  have hda := lim_digs two32 m
  have hdb := lim_digs two32 n
  have va := val_digs two32 m
  have vb := val_digs two32 n
  have hlt := lt_of_len two32 (m := m) (n := n)
  have hgt := lt_of_len two32 (m := n) (n := m)
  generalize digs 4294967296 m = x at *
  generalize digs 4294967296 n = y at *
  by_cases g : (x.length : Int) = y.length
  rotate_left
  · by_cases g2 : (x.length : Int) < y.length
    · refine xRF (jn g g2) ?_
      rw [cmpI, if_pos (hlt (by omega))]
    · refine xRF (jn g g2) ?_
      have := hgt (by omega)
      rw [cmpI, if_neg (by omega), if_neg (by omega)]
  have hxy : x.length = y.length := by omega
  refine xRF g ?_
  refine v_loopR (fun S => val 4294967296 x = val 4294967296 y ∧ S.σ = noBlk ∧ S.c = c) ?_ ?_
  · refine vwp_loop (fun k S => S.ρ 0 = nats t x ∧ S.ρ 1 = nats u y ∧ S.ρ 5 = iv ((k : Int) - 1) ∧ k ≤ x.length ∧ val 4294967296 (x.drop k) = val 4294967296 (y.drop k) ∧ S.σ = noBlk ∧ S.c = c) x.length ?_ ?_
    · rw [List.drop_of_length_le (Nat.le_refl _), hxy, List.drop_of_length_le (Nat.le_refl _)]
      refine xSF g ?_
      (repeat' apply And.intro) <;> first | rfl | omega | assumption
    rintro k ⟨ρ, σ, c3⟩ ⟨h0, h1, h5, hk, hv, hσ, hc3⟩
    dsimp only at h0 h1 h5 hσ hc3
    subst hσ hc3
    rcases Nat.eq_zero_or_pos k with rfl | hp
    · have g1 : ¬ (0 : Int) ≤ ((0 : Nat) : Int) - 1 := by omega
      refine xRF (jn h0 (jn h1 (jn h5 g1))) ?_
      rw [List.drop_zero, List.drop_zero] at hv
      exact hv
    · obtain ⟨i, rfl⟩ : ∃ i, k = i + 1 := ⟨k - 1, by omega⟩
      have e1 : (((i + 1 : Nat) : Int) - 1) = (i : Int) := by omega
      rw [e1] at h5
      have g1 : (0 : Int) ≤ (i : Int) := by omega
      by_cases g4 : x.getD i 0 < y.getD i 0
      · have := val_lt_of_top two32 hda hdb (i := i) (by omega) (by omega) hxy hv g4
        refine xRF (jn h0 (jn h1 (jn h5 (jn g1 g4)))) ?_
        rw [cmpI, if_pos (by omega)]
      by_cases g5 : y.getD i 0 < x.getD i 0
      · have := val_lt_of_top two32 hdb hda (i := i) (by omega) (by omega) hxy.symm hv.symm g5
        refine xRF (jn h0 (jn h1 (jn h5 (jn g1 (jn g4 g5))))) ?_
        rw [cmpI, if_neg (by omega), if_neg (by omega)]
      · have e2 := val_drop (b := 4294967296) (l := x) (i := i) (by omega)
        have e3 := val_drop (b := 4294967296) (l := y) (i := i) (by omega)
        have e4 : x.getD i 0 = y.getD i 0 := by omega
        have hv2 : val 4294967296 (x.drop i) = val 4294967296 (y.drop i) := by rw [e2, e3, e4, hv]
        refine xRF (jn h0 (jn h1 (jn h5 (jn g1 (jn g4 g5))))) ?_
        refine ⟨i, by omega, ?_⟩
        (repeat' apply And.intro) <;> first | rfl | omega | assumption | exact hv2
  rintro ⟨ρ, σ, c1⟩ ⟨hv, hσ, hc1⟩
  dsimp only at hσ hc1
  subst hσ hc1
  refine xR ?_
  have : m = n := by omega
  rw [cmpI, if_neg (by omega), if_pos this]
end Go.Proofs.YtplofcianjnkmaaGreatDoor
set_option linter.unusedSimpArgs false
set_option linter.unusedVariables false
set_option maxRecDepth 100000
set_option maxHeartbeats 8000000
namespace Go.Proofs.YtplofcianjnkmaaGreatDoor
open Go.VM
theorem mul_lt32 {x y : Nat} (hx : x < 4294967296) (hy : y < 4294967296) : x * y ≤ 4294967295 * 4294967295 := Nat.mul_le_mul (by omega) (by omega)

theorem at_spec (t : Tok) (l : List Nat) (i c : Nat) (hn : l.length ≤ 4398046511104) : VSpec Tryz.prog F.surdref01_Num_at c [nats t l, iv i] (fun r c' => r = nv (l.getD i 0)) := by
  refine spec_mk hm E.surdref01_Num_at B.surdref01_Num_at K.surdref01_Num_at Q.surdref01_Num_at (by rw [N.surdref01_Num_at]; simp) ?_
  unfold C.surdref01_Num_at R.surdref01_Num_at
  by_cases g : (i : Int) < l.length
  · refine xRF g ?_
    exact Nat.le_refl _
  · refine xRF g ?_
    rw [getD_ge (by omega)]

theorem add32_spec (t u : Tok) (a b : List Nat) (c : Nat) (ha : Lim 4294967296 a) (hb : Lim 4294967296 b) (hna : a.length ≤ 1099511627776) (hnb : b.length ≤ 1099511627776) :
    VSpec Tryz.prog F.surdref01_Add c [nats t a, nats u b] (fun r c' => ∃ i, r = nats (.id i) (digs 4294967296 (val 4294967296 a + val 4294967296 b)) ∧ c ≤ i ∧ i < c') := by
  refine spec_mk hm E.surdref01_Add B.surdref01_Add K.surdref01_Add Q.surdref01_Add (by rw [N.surdref01_Add]; simp) ?_
  unfold C.surdref01_Add R.surdref01_Add
  refine xG ?_
  refine xG ?_
  refine v_cut (fun S => ∃ n, a.length ≤ n ∧ b.length ≤ n ∧ n ≤ 1099511627776 ∧ S.ρ 0 = nats t a ∧ S.ρ 1 = nats u b ∧ S.ρ 5 = iv (n : Int) ∧ S.σ = noBlk ∧ S.c = c) ?_ ?_
  · by_cases g : (a.length : Int) < b.length
    · refine xRF g ?_
      exact ⟨b.length, by omega, by omega, by omega, rfl⟩
    · refine xRF g ?_
      exact ⟨a.length, by omega, by omega, by omega, rfl⟩
  rintro ⟨ρ1, σ, c1⟩ ⟨n, hn1, hn2, hn3, h0, h1, h5, hσ, hc1⟩
  dsimp only at h0 h1 h5 hσ hc1
  subst hσ hc1
  refine xRF h5 ?_
  refine s_mk (n := n + 1) (m := n + 1) (ySrF h5) (ySrF h5) (Nat.le_refl _) (by omega) ?_
  refine xRF h5 ?_
  have htot : val 4294967296 a + val 4294967296 b < 4294967296 ^ (n + 1) := by
    have h1 : val 4294967296 a < 4294967296 ^ n := Nat.lt_of_lt_of_le (val_lt ha) (Nat.pow_le_pow_right (by decide) hn1)
    have h2 : val 4294967296 b < 4294967296 ^ n := Nat.lt_of_lt_of_le (val_lt hb) (Nat.pow_le_pow_right (by decide) hn2)
    rw [Nat.pow_succ]
    generalize 4294967296 ^ n = P at *
    omega
  refine v_loop (fun S => ∃ w, w.length = n + 1 ∧ Lim 4294967296 w ∧ val 4294967296 w = val 4294967296 a + val 4294967296 b ∧ S.ρ 6 = .buf c1 0 (n + 1) (some (n + 1)) 1 ∧ S.σ = supd noBlk c1 (nblk w) ∧ c1 + 1 ≤ S.c) ?_ ?_
  · refine vwp_loop (fun k S => ∃ i w carry, k = n + 1 - i ∧ i ≤ n + 1 ∧ w.length = i ∧ Lim 4294967296 w ∧ carry ≤ 1 ∧ val 4294967296 w + 4294967296 ^ i * carry = val 4294967296 (a.take i) + val 4294967296 (b.take i) ∧ S.ρ 0 = nats t a ∧ S.ρ 1 = nats u b ∧ S.ρ 5 = iv (n : Int) ∧ S.ρ 7 = nv carry ∧ S.ρ 8 = iv (i : Int) ∧ S.ρ 6 = .buf c1 0 (n + 1) (some (n + 1)) 1 ∧ S.σ = supd noBlk c1 (nblk (w ++ List.replicate (n + 1 - i) 0)) ∧ c1 + 1 ≤ S.c) (n + 1) ?_ ?_
    · refine ⟨0, [], 0, by omega, by omega, ?_⟩
      refine xSF (jn h0 (jn h1 h5)) ?_
      (repeat' apply And.intro) <;> first | rfl | omega | assumption | exact Lim.nil | (simp [val]; done)
    rintro k ⟨ρ2, σ, c4⟩ ⟨i, w, carry, hk, hi, hw, hlw, hca, hinv, h0, h1, h5, h7, h8, h6, hσ, hc4⟩
    dsimp only at h0 h1 h5 h7 h8 h6 hσ hc4
    subst hσ
    by_cases g : (i : Int) ≤ n
    · have hxi := ha.getD (i := i) (by decide)
      have hyi := hb.getD (i := i) (by decide)
      have hax := val_take' 4294967296 a i
      have hbx := val_take' 4294967296 b i
      have hlen : (w ++ List.replicate (n + 1 - i) 0).length = n + 1 := by simp; omega
      have hset : ∀ v, (w ++ List.replicate (n + 1 - i) 0).set i v = (w ++ [v]) ++ List.replicate (n + 1 - (i + 1)) 0 := fun v => by
        have := set_fill w (n + 1 - (i + 1)) v
        rw [hw] at this
        rw [show n + 1 - i = n + 1 - (i + 1) + 1 by omega, this]
      refine xRF (jn h0 (jn h1 (jn h5 (jn h7 (jn h8 (jn h6 g)))))) ?_
      refine s_call (at_spec t a i c4 (by omega)) (yMF (jn h0 h8)) ?_
      rintro v c5 hc5 rfl
      refine xRF (jn h0 (jn h1 (jn h5 (jn h7 (jn h8 (jn h6 g)))))) ?_
      refine s_call (at_spec u b i c5 (by omega)) (yMF (jn h1 h8)) ?_
      rintro v c6 hc6 rfl
      generalize a.getD i 0 = x at *
      generalize b.getD i 0 = y at *
      have e1 : (x + y) % 18446744073709551616 = x + y := Nat.mod_eq_of_lt (by omega)
      have e2 : (x + y + carry) % 18446744073709551616 = x + y + carry := Nat.mod_eq_of_lt (by omega)
      have e3 : (x + y + carry) / 4294967296 % 18446744073709551616 = (x + y + carry) / 4294967296 := Nat.mod_eq_of_lt (by omega)
      have hd := Nat.mod_add_div (x + y + carry) 4294967296
      have hml := Nat.mod_lt (x + y + carry) (show 0 < 4294967296 by decide)
      have hdl : (x + y + carry) / 4294967296 ≤ 1 := by omega
      refine xRF (jn h0 (jn h1 (jn h5 (jn h7 (jn h8 (jn h6 (jn e1 (jn e2 (jn e3 (jn hlen hset)))))))))) ?_
      generalize (x + y + carry) % 4294967296 = d at *
      generalize (x + y + carry) / 4294967296 = cc at *
      have key := addb_step (b := 4294967296) (x := y) (y := x) (c' := cc) (d := d) hw hinv (by omega)
      rw [← hax, ← hbx] at key
      refine ⟨n + 1 - (i + 1), by omega, i + 1, w ++ [d], cc, ?_⟩
      (repeat' apply And.intro) <;> first | rfl | exact key | exact lim_snoc hlw hml | (simp [hw]; done) | omega | assumption
    · have hi' : i = n + 1 := by omega
      subst hi'
      refine xRF (jn h0 (jn h1 (jn h5 (jn h7 (jn h8 (jn h6 g)))))) ?_
      rw [List.take_of_length_le (l := a) (by omega), List.take_of_length_le (l := b) (by omega)] at hinv
      refine ⟨w, ?_⟩
      have e0 : w ++ List.replicate (n + 1 - (n + 1)) 0 = w := by simp
      rw [e0]
      have hc0 : carry = 0 := by
        rcases Nat.eq_zero_or_pos carry with h | h
        · exact h
        · have : carry = 1 := by omega
          rw [this, Nat.mul_one] at hinv
          omega
      rw [hc0, Nat.mul_zero, Nat.add_zero] at hinv
      (repeat' apply And.intro) <;> first | rfl | omega | assumption
  rintro ⟨ρ3, σ, c5⟩ ⟨w, hw, hlw, hvw, h6, hσ, hc5⟩
  dsimp only at h6 hσ hc5
  subst hσ
  refine v_freeze 6 (t := c1) (off := 0) (n := n + 1) (cap := some (n + 1)) (l := w) (ySF h6) yS (by omega) (by omega) ?_
  rw [List.drop_zero, show w.take (n + 1) = w from List.take_of_length_le (by omega)]
  refine xR ?_
  refine s_call (norm32_spec (.id c1) w c5 hlw (by omega)) yM ?_
  rintro v c6 hc6 rfl
  rw [hvw]
  refine xR ?_
  exact ⟨c1, rfl, by omega, by omega⟩

theorem mul32_spec (t u : Tok) (a b : List Nat) (c : Nat) (ha : Lim 4294967296 a) (hb : Lim 4294967296 b) (hna : a.length ≤ 1099511627776) (hnb : b.length ≤ 1099511627776) :
    VSpec Tryz.prog F.surdref01_Mul c [nats t a, nats u b] (fun r c' => ∃ i, r = nats (.id i) (digs 4294967296 (val 4294967296 a * val 4294967296 b)) ∧ c ≤ i ∧ i < c') := by
  refine spec_mk hm E.surdref01_Mul B.surdref01_Mul K.surdref01_Mul Q.surdref01_Mul (by rw [N.surdref01_Mul]; simp) ?_
  unfold C.surdref01_Mul R.surdref01_Mul
  refine xR ?_
  refine s_mk (n := a.length + b.length + 1) (m := a.length + b.length + 1) ySr ySr (Nat.le_refl _) (by omega) ?_
  refine xR ?_
  refine v_loop (fun S => ∃ w, w.length = a.length + b.length + 1 ∧ Lim 4294967296 w ∧ val 4294967296 w = val 4294967296 a * val 4294967296 b ∧ S.ρ 5 = .buf c 0 (a.length + b.length + 1) (some (a.length + b.length + 1)) 1 ∧ S.σ = supd noBlk c (nblk w) ∧ c + 1 ≤ S.c) ?_ ?_
  · refine vwp_loop (fun m S => ∃ i w, m = a.length - i ∧ i ≤ a.length ∧ w.length = i + b.length ∧ Lim 4294967296 w ∧ val 4294967296 w = val 4294967296 (a.take i) * val 4294967296 b ∧ S.ρ 1 = nats u b ∧ S.ρ 5 = .buf c 0 (a.length + b.length + 1) (some (a.length + b.length + 1)) 1 ∧ S.ρ 19 = nats t a ∧ S.ρ 20 = iv a.length ∧ S.ρ 21 = iv i ∧ S.σ = supd noBlk c (nblk (w ++ List.replicate (a.length + 1 - i) 0)) ∧ c + 1 ≤ S.c) a.length ?_ ?_
    · refine ⟨0, List.replicate b.length 0, by omega, by omega, ?_⟩
      refine xS ?_
      have e0 : List.replicate b.length 0 ++ List.replicate (a.length + 1 - 0) 0 = List.replicate (a.length + b.length + 1) 0 := by
        rw [List.replicate_append_replicate]; congr 1; omega
      (repeat' apply And.intro) <;> first | rfl | omega | assumption | (simp; done) | exact Lim.replicate (by decide) | (rw [val_replicate]; simp [val]; done) | (rw [e0])
    rintro m ⟨ρ2, σ, c4⟩ ⟨i, w, hm', hi, hw, hlw, hinv, h1, h5, h20, h21, h22, hσ, hc4⟩
    dsimp only at h1 h5 h20 h21 h22 hσ hc4
    subst hσ
    by_cases g : (i : Int) < a.length
    · have hi' : i < a.length := by omega
      have hxi := ha.getD (i := i) (by decide)
      have hx' := val_take' 4294967296 a i
      refine xRF (jn h1 (jn h5 (jn h20 (jn h21 (jn h22 g))))) ?_
      generalize a.getD i 0 = x at *
      refine v_loop (fun S => ∃ w' carry, w'.length = i + b.length ∧ Lim 4294967296 w' ∧ carry < 4294967296 ∧ val 4294967296 w' + 4294967296 ^ (i + b.length) * carry = val 4294967296 w + 4294967296 ^ i * (x * val 4294967296 b) ∧ S.ρ 1 = nats u b ∧ S.ρ 5 = .buf c 0 (a.length + b.length + 1) (some (a.length + b.length + 1)) 1 ∧ S.ρ 6 = iv i ∧ S.ρ 8 = nv carry ∧ S.ρ 19 = nats t a ∧ S.ρ 20 = iv a.length ∧ S.ρ 21 = iv i ∧ S.σ = supd noBlk c (nblk (w' ++ List.replicate (a.length + 1 - i) 0)) ∧ c + 1 ≤ S.c) ?_ ?_
      · refine vwp_loop (fun m S => ∃ k w' carry, m = b.length - k ∧ k ≤ b.length ∧ w'.length = i + b.length ∧ Lim 4294967296 w' ∧ carry < 4294967296 ∧ val 4294967296 w' + 4294967296 ^ (i + k) * carry = val 4294967296 w + 4294967296 ^ i * (x * val 4294967296 (b.take k)) ∧ S.ρ 1 = nats u b ∧ S.ρ 5 = .buf c 0 (a.length + b.length + 1) (some (a.length + b.length + 1)) 1 ∧ S.ρ 6 = iv i ∧ S.ρ 7 = nv x ∧ S.ρ 8 = nv carry ∧ S.ρ 19 = nats t a ∧ S.ρ 20 = iv a.length ∧ S.ρ 21 = iv i ∧ S.ρ 26 = nats u b ∧ S.ρ 27 = iv b.length ∧ S.ρ 28 = iv k ∧ S.σ = supd noBlk c (nblk (w' ++ List.replicate (a.length + 1 - i) 0)) ∧ c + 1 ≤ S.c) b.length ?_ ?_
        · refine ⟨0, w, 0, by omega, by omega, ?_⟩
          refine xSF (jn h1 (jn h5 (jn h20 (jn h21 h22)))) ?_
          (repeat' apply And.intro) <;> first | rfl | omega | assumption | (simp [val]; done)
        rintro m ⟨ρ3, σ, c5⟩ ⟨k, w', carry, hm2, hk, hw', hlw', hca, hinv', q1, q5, q6, q7, q8, q20, q21, q22, q27, q28, q29, hσ, hc5⟩
        dsimp only at q1 q5 q6 q7 q8 q20 q21 q22 q27 q28 q29 hσ hc5
        subst hσ
        by_cases g2 : (k : Int) < b.length
        · have hk' : k < b.length := by omega
          have hyk := hb.getD (i := k) (by decide)
          have hy' := val_take' 4294967296 b k
          have hik : i + k < w'.length := by omega
          have hwk := hlw'.getD (i := i + k) (by decide)
          have key := addAt_step (b := 4294967296) (k := i) (Y := x * val 4294967296 (b.take k)) (y := x * b.getD k 0) (c := carry) hik (by omega) hinv' _ rfl
          rw [show i + k - i = k by omega, Nat.mul_left_comm, ← Nat.mul_add, ← hy'] at key
          have hp32 := mul_lt32 hxi hyk
          have hvlt : x * b.getD k 0 + w'.getD (i + k) 0 + carry < 18446744073709551616 := by omega
          have s0 : x * b.getD k 0 % 18446744073709551616 = x * b.getD k 0 := Nat.mod_eq_of_lt (by omega)
          have s1 : (x * b.getD k 0 + w'.getD (i + k) 0) % 18446744073709551616 = x * b.getD k 0 + w'.getD (i + k) 0 := Nat.mod_eq_of_lt (by omega)
          have s2 : (x * b.getD k 0 + w'.getD (i + k) 0 + carry) % 18446744073709551616 = x * b.getD k 0 + w'.getD (i + k) 0 + carry := Nat.mod_eq_of_lt hvlt
          have s3 : (x * b.getD k 0 + w'.getD (i + k) 0 + carry) / 4294967296 < 4294967296 := by omega
          have s4 : (x * b.getD k 0 + w'.getD (i + k) 0 + carry) / 4294967296 % 18446744073709551616 = (x * b.getD k 0 + w'.getD (i + k) 0 + carry) / 4294967296 := Nat.mod_eq_of_lt (by omega)
          have s5 : w'.getD (i + k) 0 + x * b.getD k 0 + carry = x * b.getD k 0 + w'.getD (i + k) 0 + carry := by omega
          rw [s5] at key
          have eik : ((i : Int) + (k : Int)).toNat = i + k := by omega
          have hget : (w' ++ List.replicate (a.length + 1 - i) 0).getD (i + k) 0 = w'.getD (i + k) 0 := getD_append_left hik
          have hset : ∀ v, (w' ++ List.replicate (a.length + 1 - i) 0).set (i + k) v = w'.set (i + k) v ++ List.replicate (a.length + 1 - i) 0 := fun v => List.set_append_left _ _ hik
          have hlen : (w' ++ List.replicate (a.length + 1 - i) 0).length = a.length + b.length + 1 := by simp; omega
          refine xRF (jn q1 (jn q5 (jn q6 (jn q7 (jn q8 (jn q20 (jn q21 (jn q22 (jn q27 (jn q28 (jn q29 (jn g2 (jn eik (jn hget (jn hset (jn hlen (jn s0 (jn s1 (jn s2 s4))))))))))))))))))) ?_
          refine ⟨b.length - (k + 1), by omega, k + 1, w'.set (i + k) ((x * b.getD k 0 + w'.getD (i + k) 0 + carry) % 4294967296), (x * b.getD k 0 + w'.getD (i + k) 0 + carry) / 4294967296, ?_⟩
          (repeat' apply And.intro) <;> first | rfl | omega | assumption | (rw [List.length_set]; exact hw') | exact hlw'.set (Nat.mod_lt _ (by decide)) | exact key
        · have hk' : k = b.length := by omega
          subst hk'
          refine xRF (jn q1 (jn q5 (jn q6 (jn q7 (jn q8 (jn q20 (jn q21 (jn q22 (jn q27 (jn q28 (jn q29 g2))))))))))) ?_
          rw [List.take_length] at hinv'
          refine ⟨w', carry, hw', hlw', hca, hinv', ?_⟩
          (repeat' apply And.intro) <;> first | rfl | omega | assumption
      rintro ⟨ρ3, σ, c5⟩ ⟨w', carry, hw', hlw', hca, hinv', q1, q5, q6, q8, q20, q21, q22, hσ, hc5⟩
      dsimp only at q1 q5 q6 q8 q20 q21 q22 hσ hc5
      subst hσ
      have eib : ((i : Int) + (b.length : Int)).toNat = i + b.length := by omega
      have hlen : (w' ++ List.replicate (a.length + 1 - i) 0).length = a.length + b.length + 1 := by simp; omega
      have hset : ∀ v, (w' ++ List.replicate (a.length + 1 - i) 0).set (i + b.length) v = (w' ++ [v]) ++ List.replicate (a.length + 1 - (i + 1)) 0 := fun v => by
        have := set_fill w' (a.length + 1 - (i + 1)) v
        rw [hw'] at this
        rw [show a.length + 1 - i = a.length + 1 - (i + 1) + 1 by omega, this]
      refine xRF (jn q1 (jn q5 (jn q6 (jn q8 (jn q20 (jn q21 (jn q22 (jn eib (jn hlen hset))))))))) ?_
      refine ⟨a.length - (i + 1), by omega, i + 1, w' ++ [carry], ?_⟩
      have hvv : val 4294967296 (w' ++ [carry]) = val 4294967296 (a.take (i + 1)) * val 4294967296 b := by
        rw [val_append, hw']
        simp only [val, Nat.mul_zero, Nat.add_zero]
        rw [hinv', hinv, hx', Nat.add_mul, Nat.mul_assoc]
      (repeat' apply And.intro) <;> first | rfl | omega | assumption | (simp; omega) | exact lim_snoc hlw' hca | exact hvv
    · have hi' : i = a.length := by omega
      subst hi'
      refine xRF (jn h1 (jn h5 (jn h20 (jn h21 (jn h22 g))))) ?_
      rw [List.take_length] at hinv
      refine ⟨w ++ [0], ?_⟩
      have e0 : w ++ List.replicate (a.length + 1 - a.length) 0 = w ++ [0] := by rw [show a.length + 1 - a.length = 0 + 1 by omega]; rfl
      rw [e0]
      (repeat' apply And.intro) <;> first | rfl | omega | assumption | (simp; omega) | exact lim_snoc hlw (by decide) | (rw [val_snoc0]; exact hinv)
  rintro ⟨ρ3, σ, c5⟩ ⟨w, hw, hlw, hvw, h5, hσ, hc5⟩
  dsimp only at h5 hσ hc5
  subst hσ
  refine v_freeze 5 (t := c) (off := 0) (n := a.length + b.length + 1) (cap := some (a.length + b.length + 1)) (l := w) (ySF h5) yS (by omega) (by omega) ?_
  rw [List.drop_zero, show w.take (a.length + b.length + 1) = w from List.take_of_length_le (by omega)]
  refine xR ?_
  refine s_call (norm32_spec (.id c) w c5 hlw (by omega)) yM ?_
  rintro v c6 hc6 rfl
  rw [hvw]
  refine xR ?_
  exact ⟨c, rfl, by omega, by omega⟩

theorem len32_bl {n k : Nat} (h : bl n ≤ 32 * k) : (digs 4294967296 n).length ≤ k := by
  refine digs_len two32 ?_
  rw [pow32]
  exact lt_of_bl h
theorem bl_mul_le (m n : Nat) : bl (m * n) ≤ bl m + bl n := by
  refine bl_le ?_
  rw [Nat.pow_add]
  exact Nat.mul_lt_mul'' (lt_bl m) (lt_bl n)
theorem bl_add_le {m n k : Nat} (hm : bl m ≤ k) (hn : bl n ≤ k) : bl (m + n) ≤ k + 1 := bl_le (bl_sum (lt_of_bl hm) (lt_of_bl hn))
def RefR (c c' n : Nat) (r : V) : Prop := ∃ i, r = nats (.id i) (digs 4294967296 n) ∧ c ≤ i ∧ i < c'
theorem addR (t u : Tok) (m n c : Nat) (hm : bl m ≤ 68719476736) (hn : bl n ≤ 68719476736) : VSpec Tryz.prog F.surdref01_Add c [nats t (digs 4294967296 m), nats u (digs 4294967296 n)] (fun r c' => RefR c c' (m + n) r) := by
  have h := add32_spec t u (digs 4294967296 m) (digs 4294967296 n) c (lim_digs two32 m) (lim_digs two32 n) (Nat.le_trans (len32_bl (k := 2147483648) (by omega)) (by decide)) (Nat.le_trans (len32_bl (k := 2147483648) (by omega)) (by decide))
  rw [val_digs two32, val_digs two32] at h
  exact h
theorem mulR (t u : Tok) (m n c : Nat) (hm : bl m ≤ 68719476736) (hn : bl n ≤ 68719476736) : VSpec Tryz.prog F.surdref01_Mul c [nats t (digs 4294967296 m), nats u (digs 4294967296 n)] (fun r c' => RefR c c' (m * n) r) := by
  have h := mul32_spec t u (digs 4294967296 m) (digs 4294967296 n) c (lim_digs two32 m) (lim_digs two32 n) (Nat.le_trans (len32_bl (k := 2147483648) (by omega)) (by decide)) (Nat.le_trans (len32_bl (k := 2147483648) (by omega)) (by decide))
  rw [val_digs two32, val_digs two32] at h
  exact h
theorem cmpR (t u : Tok) (m n c : Nat) (hm : bl m ≤ 68719476736) (hn : bl n ≤ 68719476736) : VSpec Tryz.prog F.surdref01_Cmp c [nats t (digs 4294967296 m), nats u (digs 4294967296 n)] (fun r _ => r = iv (cmpI m n)) :=
  cmp_spec t u m n c (Nat.le_trans (len32_bl (k := 2147483648) (by omega)) (by decide)) (Nat.le_trans (len32_bl (k := 2147483648) (by omega)) (by decide))
end Go.Proofs.YtplofcianjnkmaaGreatDoor
set_option linter.unusedSimpArgs false
set_option linter.unusedVariables false
set_option maxRecDepth 100000
set_option maxHeartbeats 8000000
namespace Go.Proofs.YtplofcianjnkmaaGreatDoor
open Go.VM
theorem killσ_lit (t : Nat) {σ : Nat → Option Blk} (h : LitB σ) : killσ t σ = σ := by
  funext u
  unfold killσ
  cases hk : σ u with
  | none => rfl
  | some k =>
    simp only [Option.map]
    have : k.cells.map (killV t) = k.cells := by
      refine (List.map_congr_left fun x hx => ?_).trans (List.map_id _)
      obtain ⟨v, rfl⟩ := h u k hk x hx
      rfl
    rw [this]
section
variable {P : Program} {dr : Bool} {c0 : Nat} {ρ : Nat → V} {σ : Nat → Option Blk} {c i : Nat} {r : List VO} {K : VS → Prop}
theorem s_appmove {x y : X} {t n : Nat} {cap : Option Nat} {w ys : List Nat} {u : Tok} (hx : x.ev ρ = .buf t 0 n cap 1) (ht : σ t = nblk w) (hw : w.length = n) (h0 : c0 ≤ t) (hy : y.ev ρ = nats u ys) (hb : n + ys.length ≤ 17592186044416) (hσ : LitB σ)
    (hk : wps P dr c0 r ⟨upd (kill (some (.inl t)) ρ) i (.buf t 0 (n + ys.length) none 1), supd σ t (nblk (w ++ ys)), c⟩ K) : wps P dr c0 (⟨some i, .app 1 8 [.int .u64 0] x y, none⟩ :: r) ⟨ρ, σ, c⟩ K := by
  have hc : vcells 1 σ (y.ev ρ) = some (ys.map nv) := by rw [hy]; cases u <;> rfl
  refine s_eff rfl (by intros; exact fun h => by cases h) (by intros; exact fun h => by cases h) ⟨_, _, _, some (.inl t), .appMove (k := ys.length) hx ht h0 hc (by simp) (by simp; omega) (by omega) (by omega), ?_⟩
  have e : (((w.map nv).take (n * 1)) ++ ys.map nv).map (killV t) = (w ++ ys).map nv := by
    rw [Nat.mul_one, ← hw, List.take_of_length_le (by simp), ← List.map_append, List.map_map]; rfl
  rw [e, killσ_lit t hσ]
  exact hk
end
theorem kill_at (t : Nat) (ρ : Nat → V) (j : Nat) : kill (some (.inl t)) ρ j = killV t (ρ j) := rfl
theorem killV_sl (t : Nat) (tk : Tok) (l : List Nat) : killV t (nats tk l) = nats tk l := rfl
theorem killV_lit (t : Nat) (v : Value) : killV t (.lit v) = .lit v := rfl

theorem limbs_spec (t : Tok) (x : List Nat) (c : Nat) (hx : Lim 4294967296 x) (hnx : x.length ≤ 1099511627776) :
    VSpec Tryz.prog F.surdref01_Num_Limbs c [nats t x] (fun r c' => ∃ tk l, r = nats tk l ∧ Tk c c' tk ∧ Lim 18446744073709551616 l ∧ l.length = (x.length + 1) / 2 ∧ val 18446744073709551616 l = val 4294967296 x) := by
  refine spec_mk hm E.surdref01_Num_Limbs B.surdref01_Num_Limbs K.surdref01_Num_Limbs Q.surdref01_Num_Limbs (by rw [N.surdref01_Num_Limbs]; simp) ?_
  unfold C.surdref01_Num_Limbs R.surdref01_Num_Limbs
  refine xR ?_
  refine v_loop (fun S => ∃ w, Lim 18446744073709551616 w ∧ w.length = (x.length + 1) / 2 ∧ val 18446744073709551616 w = val 4294967296 x ∧ ((w = [] ∧ S.ρ 3 = nil1 ∧ S.σ = noBlk) ∨ ∃ tb, S.ρ 3 = .buf tb 0 w.length none 1 ∧ S.σ = supd noBlk tb (nblk w) ∧ c ≤ tb ∧ tb < S.c) ∧ c ≤ S.c) ?_ ?_
  · refine vwp_loop (fun k S => ∃ j w, k = x.length + 1 - 2 * j ∧ 2 * j ≤ x.length + 1 ∧ w.length = j ∧ Lim 18446744073709551616 w ∧ val 18446744073709551616 w = val 4294967296 (x.take (2 * j)) ∧ S.ρ 0 = nats t x ∧ S.ρ 4 = iv ((2 * j : Nat) : Int) ∧ ((w = [] ∧ S.ρ 3 = nil1 ∧ S.σ = noBlk) ∨ ∃ tb, S.ρ 3 = .buf tb 0 w.length none 1 ∧ S.σ = supd noBlk tb (nblk w) ∧ c ≤ tb ∧ tb < S.c) ∧ c ≤ S.c) (x.length + 1) ?_ ?_
    · refine ⟨0, [], by omega, by omega, rfl, Lim.nil, by simp [val], ?_⟩
      refine xS ?_
      (repeat' apply And.intro) <;> first | rfl | exact Nat.le_refl _ | exact .inl trivial | exact .inl rfl | exact .inl ⟨rfl, rfl⟩
    rintro k ⟨ρ2, σ, c4⟩ ⟨j, w, hk, hj, hw, hlw, hinv, h0, h4, hcase, hc4⟩
    dsimp only at h0 h4 hcase hc4
    by_cases g : ((2 * j : Nat) : Int) < x.length
    · have hj' : 2 * j < x.length := by omega
      have hxi := hx.getD (i := 2 * j) (by decide)
      have hyi := hx.getD (i := 2 * j + 1) (by decide)
      have hv1 := val_take' 4294967296 x (2 * j)
      have hv2 := val_take' 4294967296 x (2 * j + 1)
      have e1 : ((2 * j : Nat) : Int) + 1 = ((2 * j + 1 : Nat) : Int) := by omega
      have e2 : ((2 * j : Nat) : Int) + 2 = ((2 * (j + 1) : Nat) : Int) := by omega
      obtain ⟨vv, hvv⟩ : ∃ vv, vv = x.getD (2 * j) 0 + x.getD (2 * j + 1) 0 * 4294967296 := ⟨_, rfl⟩
      have hvl : vv < 18446744073709551616 := by omega
      have key : val 18446744073709551616 (w ++ [vv]) = val 4294967296 (x.take (2 * (j + 1))) := by
        rw [val_append, hw, hinv, show 2 * (j + 1) = 2 * j + 1 + 1 by omega, hv2, hv1, val, val, Nat.mul_zero, Nat.add_zero, pow64, show 64 * j = 32 * (2 * j) by omega, ← pow32, hvv, Nat.pow_succ, Nat.mul_add, Nat.mul_assoc, Nat.mul_comm 4294967296]
        omega
      have ew : (w ++ [vv]).length = j + 1 := by simp [hw]
      rcases hcase with ⟨hw0, h3, hσ⟩ | ⟨tb, h3, hσ, htb, htb2⟩
      · subst hσ hw0
        obtain rfl : j = 0 := by simpa using hw.symm
        by_cases g2 : ((2 * 0 + 1 : Nat) : Int) < x.length
        · have m1 : x.getD (2 * 0 + 1) 0 * 4294967296 % 18446744073709551616 = x.getD (2 * 0 + 1) 0 * 4294967296 := Nat.mod_eq_of_lt (by omega)
          have m2 : (x.getD (2 * 0) 0 + x.getD (2 * 0 + 1) 0 * 4294967296) % 18446744073709551616 = vv := by rw [← hvv]; exact Nat.mod_eq_of_lt hvl
          refine xRF (jn h0 (jn h3 (jn h4 (jn g (jn e1 (jn g2 (jn m1 m2))))))) ?_
          refine s_bsl1 (n := vv) yS ?_
          refine s_app0 (t := .id c4) (l := [vv]) yS yS (by simp) (fun e => by cases e) (fun _ => ?_)
          refine xRF (jn h0 (jn h3 (jn h4 e2))) ?_
          refine ⟨x.length + 1 - 2 * (0 + 1), by omega, 0 + 1, [] ++ [vv], ?_⟩
          (repeat' apply And.intro) <;> first | rfl | omega | assumption | exact key | exact lim_snoc hlw hvl | exact .inr ⟨c4 + 1, rfl, rfl, by omega, by omega⟩
        · have hy0 : x.getD (2 * 0 + 1) 0 = 0 := getD_ge (by omega)
          have m2 : x.getD (2 * 0) 0 = vv := by rw [hvv, hy0, Nat.zero_mul, Nat.add_zero]
          refine xRF (jn h0 (jn h3 (jn h4 (jn g (jn e1 (jn g2 m2)))))) ?_
          refine s_bsl1 (n := vv) yS ?_
          refine s_app0 (t := .id c4) (l := [vv]) yS yS (by simp) (fun e => by cases e) (fun _ => ?_)
          refine xRF (jn h0 (jn h3 (jn h4 e2))) ?_
          refine ⟨x.length + 1 - 2 * (0 + 1), by omega, 0 + 1, [] ++ [vv], ?_⟩
          (repeat' apply And.intro) <;> first | rfl | omega | assumption | exact key | exact lim_snoc hlw hvl | exact .inr ⟨c4 + 1, rfl, rfl, by omega, by omega⟩
      · subst hσ
        by_cases g2 : ((2 * j + 1 : Nat) : Int) < x.length
        · have m1 : x.getD (2 * j + 1) 0 * 4294967296 % 18446744073709551616 = x.getD (2 * j + 1) 0 * 4294967296 := Nat.mod_eq_of_lt (by omega)
          have m2 : (x.getD (2 * j) 0 + x.getD (2 * j + 1) 0 * 4294967296) % 18446744073709551616 = vv := by rw [← hvv]; exact Nat.mod_eq_of_lt hvl
          refine xRF (jn h0 (jn h3 (jn h4 (jn g (jn e1 (jn g2 (jn m1 m2))))))) ?_
          refine s_bsl1 (n := vv) yS ?_
          refine s_appmove (t := tb) (n := w.length) (cap := none) (w := w) (u := .id c4) (ys := [vv]) yS yS rfl htb yS (by simp; omega) (LitB.no.put _ _ _) ?_
          refine xRF (jn @kill_at (jn @killV_sl (jn @killV_lit (jn h0 (jn h3 (jn h4 e2)))))) ?_
          refine ⟨x.length + 1 - 2 * (j + 1), by omega, j + 1, w ++ [vv], ?_⟩
          (repeat' apply And.intro) <;> first | rfl | omega | assumption | exact key | exact lim_snoc hlw hvl | exact .inr ⟨tb, by simp, rfl, by omega, by omega⟩
        · have hy0 : x.getD (2 * j + 1) 0 = 0 := getD_ge (by omega)
          have m2 : x.getD (2 * j) 0 = vv := by rw [hvv, hy0, Nat.zero_mul, Nat.add_zero]
          refine xRF (jn h0 (jn h3 (jn h4 (jn g (jn e1 (jn g2 m2)))))) ?_
          refine s_bsl1 (n := vv) yS ?_
          refine s_appmove (t := tb) (n := w.length) (cap := none) (w := w) (u := .id c4) (ys := [vv]) yS yS rfl htb yS (by simp; omega) (LitB.no.put _ _ _) ?_
          refine xRF (jn @kill_at (jn @killV_sl (jn @killV_lit (jn h0 (jn h3 (jn h4 e2)))))) ?_
          refine ⟨x.length + 1 - 2 * (j + 1), by omega, j + 1, w ++ [vv], ?_⟩
          (repeat' apply And.intro) <;> first | rfl | omega | assumption | exact key | exact lim_snoc hlw hvl | exact .inr ⟨tb, by simp, rfl, by omega, by omega⟩
    · have hall : val 4294967296 (x.take (2 * j)) = val 4294967296 x := by rw [List.take_of_length_le (by omega)]
      rw [hall] at hinv
      rcases hcase with ⟨hw0, h3, hσ⟩ | ⟨tb, h3, hσ, htb, htb2⟩
      · subst hσ
        refine xRF (jn h0 (jn h3 (jn h4 g))) ?_
        exact ⟨w, hlw, by omega, hinv, .inl hw0, hc4⟩
      · subst hσ
        refine xRF (jn h0 (jn h3 (jn h4 g))) ?_
        refine ⟨w, hlw, by omega, hinv, .inr ⟨tb, ?_⟩, hc4⟩
        first | exact ⟨rfl, rfl, htb, htb2⟩ | exact ⟨h3, rfl, htb, htb2⟩
  rintro ⟨ρ3, σ, c5⟩ ⟨w, hlw, hwn, hvw, hcase, hc5⟩
  dsimp only at hcase hc5
  rcases hcase with ⟨hw0, h3, hσ⟩ | ⟨tb, h3, hσ, htb, htb2⟩
  · subst hσ hw0
    refine xRF h3 ?_
    exact ⟨.nil, [], rfl, .inl rfl, Lim.nil, hwn, hvw⟩
  · subst hσ
    refine v_freeze 3 (t := tb) (off := 0) (n := w.length) (cap := none) (l := w) (ySF h3) yS (by omega) (by omega) ?_
    rw [List.drop_zero, List.take_length]
    refine xR ?_
    exact ⟨.id tb, w, rfl, .inr ⟨tb, rfl, by omega, by omega⟩, hlw, hwn, hvw⟩
end Go.Proofs.YtplofcianjnkmaaGreatDoor
set_option linter.unusedSimpArgs false
set_option linter.unusedVariables false
set_option maxRecDepth 100000
set_option maxHeartbeats 8000000
namespace Go.Proofs.YtplofcianjnkmaaGreatDoor
open Go.VM

theorem limbs_norm {n : Nat} {l : List Nat} (hl : Lim 18446744073709551616 l) (hn : l.length = ((digs 4294967296 n).length + 1) / 2) (hv : val 18446744073709551616 l = n) : l = digs 18446744073709551616 n := by
  rcases Nat.eq_zero_or_pos n with h | h
  · subst h
    have e : (digs 4294967296 0).length = 0 := rfl
    rw [e] at hn
    have e2 : l = [] := List.eq_nil_of_length_eq_zero (by omega)
    rw [e2]
    rfl
  · refine val_inj two64 hl (lim_digs two64 n) ?_ (by rw [hv, val_digs two64])
    have h1 := digs_len_pos two32 h
    have h2 : 0 < (digs 4294967296 n).length := by
      rcases Nat.eq_zero_or_pos (digs 4294967296 n).length with g | g
      · have := (digs_eq_nil two32).1 (List.eq_nil_of_length_eq_zero g); omega
      · exact g
    have h3 : l.length - 1 < (digs 18446744073709551616 n).length := by
      refine digs_len_lt two64 (Nat.le_trans ?_ h1)
      rw [pow64, pow32]
      exact Nat.pow_le_pow_right (by decide) (by omega)
    have h4 : (digs 18446744073709551616 n).length ≤ l.length := by
      refine digs_len two64 ?_
      rw [← hv]
      exact val_lt hl
    omega

theorem limbs_num (t : Tok) (n c : Nat) (hn : (digs 4294967296 n).length ≤ 1099511627776) :
    VSpec Tryz.prog F.surdref01_Num_Limbs c [nats t (digs 4294967296 n)] (fun r c' => NatR c c' n r) := by
  refine (limbs_spec t (digs 4294967296 n) c (lim_digs two32 n) hn).mono ?_
  rintro r c' ⟨tk, l, rfl, ht, hl, hln, hlv⟩
  rw [val_digs two32] at hlv
  exact ⟨tk, by rw [limbs_norm hl hln hlv], ht⟩

theorem is_spec (t u : Tok) (n : Nat) (l : List Nat) (c : Nat) (hn : (digs 4294967296 n).length ≤ 1099511627776) (hl : l.length ≤ 1099511627776) :
    VSpec Tryz.prog F.surdref01_Num_Is c [nats t (digs 4294967296 n), nats u l] (fun r _ => r = bv (decide (l = digs 18446744073709551616 n))) := by
  refine spec_mk hm E.surdref01_Num_Is B.surdref01_Num_Is K.surdref01_Num_Is Q.surdref01_Num_Is (by rw [N.surdref01_Num_Is]; simp) ?_
  unfold C.surdref01_Num_Is R.surdref01_Num_Is
  refine xR ?_
  refine s_call (limbs_num t n c hn) yM ?_
  rintro v c1 hc1 ⟨tk, rfl, _⟩
  have hwl : (digs 18446744073709551616 n).length ≤ 1099511627776 := by
    refine Nat.le_trans (digs_len two64 (k := (digs 4294967296 n).length) ?_) hn
    have := val_lt (lim_digs two32 n)
    rw [val_digs two32] at this
    exact Nat.lt_of_lt_of_le this (Nat.pow_le_pow_left (by decide) _)
  generalize digs 18446744073709551616 n = w at *
  by_cases g : (w.length : Int) = l.length
  rotate_left
  · refine xRF g ?_
    rw [decide_eq_false]
    intro e
    rw [e] at g
    exact g rfl
  have hwl2 : w.length = l.length := by omega
  refine xRF g ?_
  refine v_loopR (fun S => l = w ∧ S.σ = noBlk ∧ c ≤ S.c) ?_ ?_
  · refine vwp_loop (fun k S => ∃ i, k = w.length - i ∧ i ≤ w.length ∧ l.take i = w.take i ∧ S.ρ 5 = nats tk w ∧ S.ρ 1 = nats u l ∧ S.ρ 15 = iv l.length ∧ S.ρ 16 = iv i ∧ S.σ = noBlk ∧ c ≤ S.c) w.length ?_ ?_
    · refine ⟨0, by omega, by omega, ?_⟩
      refine xSF g ?_
      (repeat' apply And.intro) <;> first | rfl | omega | assumption
    rintro k ⟨ρ, σ, c3⟩ ⟨i, hk, hi, ht, h5, h1, h15, h16, hσ, hc3⟩
    dsimp only at h5 h1 h15 h16 hσ hc3
    subst hσ
    by_cases g2 : (i : Int) < l.length
    · have t1 := take_snoc (l := l) (i := i) (by omega)
      have t2 := take_snoc (l := w) (i := i) (by omega)
      by_cases g3 : w.getD i 0 = l.getD i 0
      · refine xRF (jn h5 (jn h1 (jn h15 (jn h16 (jn g2 g3))))) ?_
        refine ⟨w.length - (i + 1), by omega, i + 1, ?_⟩
        have : l.take (i + 1) = w.take (i + 1) := by rw [t1, t2, ht, g3]
        (repeat' apply And.intro) <;> first | rfl | omega | assumption | exact this
      · refine xRF (jn h5 (jn h1 (jn h15 (jn h16 (jn g2 g3))))) ?_
        rw [decide_eq_false]
        intro e
        rw [e] at g3
        exact g3 rfl
    · refine xRF (jn h5 (jn h1 (jn h15 (jn h16 g2)))) ?_
      have : i = w.length := by omega
      subst this
      rw [List.take_length, hwl2, List.take_length] at ht
      exact ⟨ht, hc3⟩
  rintro ⟨ρ3, σ, c5⟩ ⟨he, hσ, hc5⟩
  dsimp only at hσ hc5
  subst hσ
  refine xR ?_
  rw [decide_eq_true he]

end Go.Proofs.YtplofcianjnkmaaGreatDoor
set_option linter.unusedSimpArgs false
set_option linter.unusedVariables false
set_option maxRecDepth 100000
set_option maxHeartbeats 8000000
namespace Go.Proofs.YtplofcianjnkmaaGreatDoor
open Go.VM

end Go.Proofs.YtplofcianjnkmaaGreatDoor
set_option linter.unusedSimpArgs false
set_option linter.unusedVariables false
set_option maxRecDepth 100000
set_option maxHeartbeats 8000000
namespace Go.Proofs.YtplofcianjnkmaaGreatDoor
open Go.VM

theorem sub_digit {x y o d : Nat} (hx : x < 4294967296) (hy : y < 4294967296) (ho : o ≤ 1) (hd : d = (x + 4294967296 - y - o) % 4294967296) : d + y + o = x + 4294967296 * (1 - (x + 4294967296 - y - o) / 4294967296) ∧ 1 - (x + 4294967296 - y - o) / 4294967296 ≤ 1 ∧ d < 4294967296 := by omega
theorem sub_m1 {x y o : Nat} (hx : x < 4294967296) (hy : y < 4294967296) (ho : o ≤ 1) : ((x + 4294967296) % 18446744073709551616 + (18446744073709551616 - y % 18446744073709551616)) % 18446744073709551616 = x + 4294967296 - y ∧ (x + 4294967296 - y + (18446744073709551616 - o % 18446744073709551616)) % 18446744073709551616 = x + 4294967296 - y - o ∧ (x + 4294967296 - y - o) / 4294967296 % 18446744073709551616 = (x + 4294967296 - y - o) / 4294967296 ∧ (1 + (18446744073709551616 - (x + 4294967296 - y - o) / 4294967296)) % 18446744073709551616 = 1 - (x + 4294967296 - y - o) / 4294967296 := by omega

theorem sub32_spec (t u : Tok) (a b : List Nat) (c : Nat) (ha : Lim 4294967296 a) (hb : Lim 4294967296 b) (hna : a.length ≤ 1099511627776) (hnb : b.length ≤ a.length) (hle : val 4294967296 b ≤ val 4294967296 a) :
    VSpec Tryz.prog F.surdref01_Sub c [nats t a, nats u b] (fun r c' => ∃ i, r = nats (.id i) (digs 4294967296 (val 4294967296 a - val 4294967296 b)) ∧ c ≤ i ∧ i < c') := by
  refine spec_mk hm E.surdref01_Sub B.surdref01_Sub K.surdref01_Sub Q.surdref01_Sub (by rw [N.surdref01_Sub]; simp) ?_
  unfold C.surdref01_Sub R.surdref01_Sub
  refine xR ?_
  refine s_mk (n := a.length) (m := a.length) yS yS (Nat.le_refl _) (by omega) ?_
  refine xR ?_
  refine v_loop (fun S => ∃ w, w.length = a.length ∧ Lim 4294967296 w ∧ val 4294967296 w = val 4294967296 a - val 4294967296 b ∧ S.ρ 5 = .buf c 0 a.length (some a.length) 1 ∧ S.σ = supd noBlk c (nblk w) ∧ c + 1 ≤ S.c) ?_ ?_
  · refine vwp_loop (fun k S => ∃ i w o, k = a.length - i ∧ i ≤ a.length ∧ w.length = i ∧ Lim 4294967296 w ∧ o ≤ 1 ∧ val 4294967296 w + val 4294967296 (b.take i) = val 4294967296 (a.take i) + 4294967296 ^ i * o ∧ S.ρ 0 = nats t a ∧ S.ρ 1 = nats u b ∧ S.ρ 13 = iv (a.length : Int) ∧ S.ρ 6 = nv o ∧ S.ρ 14 = iv (i : Int) ∧ S.ρ 5 = .buf c 0 a.length (some a.length) 1 ∧ S.σ = supd noBlk c (nblk (w ++ List.replicate (a.length - i) 0)) ∧ c + 1 ≤ S.c) a.length ?_ ?_
    · refine ⟨0, [], 0, by omega, by omega, ?_⟩
      refine xS ?_
      (repeat' apply And.intro) <;> first | rfl | omega | assumption | exact Lim.nil | (simp [val]; done)
    rintro k ⟨ρ2, σ, c4⟩ ⟨i, w, o, hk, hi, hw, hlw, ho, hinv, h0, h1, h13, h6, h14, h5, hσ, hc4⟩
    dsimp only at h0 h1 h13 h6 h14 h5 hσ hc4
    subst hσ
    by_cases g : (i : Int) < a.length
    · have hi' : i < a.length := by omega
      have hxi := ha.getD (i := i) (by decide)
      have hyi := hb.getD (i := i) (by decide)
      have hax := val_take' 4294967296 a i
      have hbx := val_take' 4294967296 b i
      have hlen : (w ++ List.replicate (a.length - i) 0).length = a.length := by simp; omega
      have hset : ∀ v, (w ++ List.replicate (a.length - i) 0).set i v = (w ++ [v]) ++ List.replicate (a.length - (i + 1)) 0 := fun v => by
        have := set_fill w (a.length - (i + 1)) v
        rw [hw] at this
        rw [show a.length - i = a.length - (i + 1) + 1 by omega, this]
      refine xRF (jn h0 (jn h1 (jn h13 (jn h6 (jn h14 (jn h5 g)))))) ?_
      refine s_call (at_spec u b i c4 (by omega)) (yMF (jn h1 h14)) ?_
      rintro v c5 hc5 rfl
      generalize a.getD i 0 = x at *
      generalize b.getD i 0 = y at *
      obtain ⟨m1, m2, m3, m4⟩ := sub_m1 hxi hyi ho
      obtain ⟨d1, d2, d3⟩ := sub_digit hxi hyi ho rfl
      refine xRF (jn h0 (jn h1 (jn h13 (jn h6 (jn h14 (jn h5 (jn hlen (jn hset (jn m1 (jn m2 (jn m3 m4))))))))))) ?_
      have key := sub_step (b := 4294967296) hw hinv d1
      rw [← hax, ← hbx] at key
      generalize 1 - (x + 4294967296 - y - o) / 4294967296 = o' at *
      generalize (x + 4294967296 - y - o) % 4294967296 = d at *
      refine ⟨a.length - (i + 1), by omega, i + 1, w ++ [d], o', ?_⟩
      (repeat' apply And.intro) <;> first | rfl | exact key | exact lim_snoc hlw d3 | (simp [hw]; done) | omega | assumption
    · have hi' : i = a.length := by omega
      subst hi'
      refine xRF (jn h0 (jn h1 (jn h13 (jn h6 (jn h14 (jn h5 g)))))) ?_
      rw [List.take_of_length_le (l := a) (by omega), List.take_of_length_le (l := b) (by omega)] at hinv
      refine ⟨w, ?_⟩
      have e0 : w ++ List.replicate (a.length - a.length) 0 = w := by simp
      rw [e0]
      have hwl := val_lt hlw
      rw [hw] at hwl
      have hc0 : o = 0 := by
        rcases Nat.eq_zero_or_pos o with h | h
        · exact h
        · have : o = 1 := by omega
          rw [this, Nat.mul_one] at hinv
          omega
      rw [hc0, Nat.mul_zero, Nat.add_zero] at hinv
      (repeat' apply And.intro) <;> first | rfl | omega | assumption
  rintro ⟨ρ3, σ, c5⟩ ⟨w, hw, hlw, hvw, h5, hσ, hc5⟩
  dsimp only at h5 hσ hc5
  subst hσ
  refine v_freeze 5 (t := c) (off := 0) (n := a.length) (cap := some a.length) (l := w) (ySF h5) yS (by omega) (by omega) ?_
  rw [List.drop_zero, show w.take a.length = w from List.take_of_length_le (by omega)]
  refine xR ?_
  refine s_call (norm32_spec (.id c) w c5 hlw (by omega)) yM ?_
  rintro v c6 hc6 rfl
  rw [hvw]
  refine xR ?_
  exact ⟨c, rfl, by omega, by omega⟩

theorem shl32_low {x s : Nat} (hs : s ≤ 31) (hx : x < 4294967296) : x * 2 ^ s % 18446744073709551616 = x * 2 ^ s ∧ x * 2 ^ s % 4294967296 + 2 ^ s ≤ 4294967296 ∧ x * 2 ^ s / 4294967296 < 2 ^ s ∧ x * 2 ^ s / 4294967296 % 18446744073709551616 = x * 2 ^ s / 4294967296 ∧ 2 ^ s ≤ 2147483648 := by
  have h31 : 2 ^ s ≤ 2 ^ 31 := Nat.pow_le_pow_right (by decide) hs
  have hp : 0 < 2 ^ s := Nat.two_pow_pos s
  have hlt : x * 2 ^ s < 4294967296 * 2 ^ s := Nat.mul_lt_mul_of_pos_right hx hp
  have h32 : 4294967296 = 2 ^ (32 - s) * 2 ^ s := by rw [← Nat.pow_add, show 32 - s + s = 32 by omega]
  have hlow : x * 2 ^ s % 4294967296 + 2 ^ s ≤ 4294967296 := by
    have e : x * 2 ^ s % 4294967296 = (x % 2 ^ (32 - s)) * 2 ^ s := by rw [h32, Nat.mul_mod_mul_right]
    rw [e, ← Nat.succ_mul, h32]
    exact Nat.mul_le_mul_right _ (Nat.mod_lt _ (Nat.two_pow_pos _))
  have hdiv : x * 2 ^ s / 4294967296 < 2 ^ s := Nat.div_lt_of_lt_mul hlt
  have h1 : x * 2 ^ s < 18446744073709551616 := by
    have : 4294967296 * 2 ^ s ≤ 4294967296 * 2 ^ 31 := Nat.mul_le_mul_left _ h31
    omega
  exact ⟨Nat.mod_eq_of_lt h1, hlow, hdiv, Nat.mod_eq_of_lt (by omega), by omega⟩

theorem shl32_spec (t : Tok) (a : List Nat) (n c : Nat) (ha : Lim 4294967296 a) (hna : a.length ≤ 1099511627776) (hn : n ≤ 1099511627776) :
    VSpec Tryz.prog F.surdref01_Shl c [nats t a, iv n] (fun r c' => (a = [] ∧ r = nil1) ∨ ∃ i, r = nats (.id i) (digs 4294967296 (val 4294967296 a * 2 ^ n)) ∧ c ≤ i ∧ i < c') := by
  refine spec_mk hm E.surdref01_Shl B.surdref01_Shl K.surdref01_Shl Q.surdref01_Shl (by rw [N.surdref01_Shl]; simp) ?_
  unfold C.surdref01_Shl R.surdref01_Shl
  by_cases g0 : (a.length : Int) = 0
  · refine xRF g0 ?_
    exact .inl (List.eq_nil_of_length_eq_zero (by omega))
  obtain ⟨q, hq⟩ : ∃ q, q = n / 32 := ⟨_, rfl⟩
  obtain ⟨s, hs⟩ : ∃ s, s = n % 32 := ⟨_, rfl⟩
  have hs31 : s ≤ 31 := by omega
  have eq1 : (n : Int) / 32 = (q : Int) := by omega
  have es1 : (n : Int) % 32 = (s : Int) := by omega
  have el : (a.length : Int) + (q : Int) + 1 = ((q + a.length + 1 : Nat) : Int) := by omega
  refine xRF (jn g0 (jn eq1 el)) ?_
  refine s_mk (n := q + a.length + 1) (m := q + a.length + 1) yS yS (Nat.le_refl _) (by omega) ?_
  refine xRF es1 ?_
  refine v_loop (fun S => ∃ w, w.length = q + a.length + 1 ∧ Lim 4294967296 w ∧ val 4294967296 w = val 4294967296 a * 2 ^ n ∧ S.ρ 5 = .buf c 0 (q + a.length + 1) (some (q + a.length + 1)) 1 ∧ S.σ = supd noBlk c (nblk w) ∧ c + 1 ≤ S.c) ?_ ?_
  · refine vwp_loop (fun k S => ∃ i w o, k = a.length - i ∧ i ≤ a.length ∧ w.length = i ∧ Lim 4294967296 w ∧ o < 2 ^ s ∧ val 4294967296 (w ++ [o]) = val 4294967296 (a.take i) * 2 ^ s ∧ S.ρ 1 = iv (n : Int) ∧ S.ρ 6 = iv (s : Int) ∧ S.ρ 21 = nats t a ∧ S.ρ 22 = iv (a.length : Int) ∧ S.ρ 23 = iv (i : Int) ∧ S.ρ 5 = .buf c 0 (q + a.length + 1) (some (q + a.length + 1)) 1 ∧ S.σ = supd noBlk c (nblk ((List.replicate q 0 ++ w) ++ o :: List.replicate (a.length - i) 0)) ∧ c + 1 ≤ S.c) a.length ?_ ?_
    · refine ⟨0, [], 0, by omega, by omega, ?_⟩
      refine xS ?_
      have e0 : List.replicate (q + a.length + 1) 0 = (List.replicate q 0 ++ []) ++ 0 :: List.replicate (a.length - 0) 0 := by
        rw [List.append_nil, ← List.replicate_succ, List.replicate_append_replicate]; rfl
      rw [e0]
      (repeat' apply And.intro) <;> first | rfl | omega | assumption | exact Lim.nil | exact Nat.two_pow_pos s | (simp [val]; done)
    rintro k ⟨ρ2, σ, c4⟩ ⟨i, w, o, hk, hi, hw, hlw, ho, hinv, h1, h6, h21, h22, h23, h5, hσ, hc4⟩
    dsimp only at h1 h6 h21 h22 h23 h5 hσ hc4
    subst hσ
    by_cases g : (i : Int) < a.length
    · have hi' : i < a.length := by omega
      have hxi := ha.getD (i := i) (by decide)
      have hax := val_take' 4294967296 a i
      obtain ⟨m1, m2, m3, m4, m5⟩ := shl32_low hs31 hxi
      have hql : (List.replicate q 0 ++ w).length = i + q := by simp [hw]; omega
      have eiq : ((i : Int) + (q : Int)).toNat = i + q := by omega
      have eiq1 : ((i : Int) + (q : Int) + 1).toNat = i + q + 1 := by omega
      have hlen : ((List.replicate q 0 ++ w) ++ o :: List.replicate (a.length - i) 0).length = q + a.length + 1 := by simp [hw]; omega
      have hget : ((List.replicate q 0 ++ w) ++ o :: List.replicate (a.length - i) 0).getD (i + q) 0 = o := by rw [← hql]; exact getD_at _ _ _
      have hset1 : ∀ v, ((List.replicate q 0 ++ w) ++ o :: List.replicate (a.length - i) 0).set (i + q) v = (List.replicate q 0 ++ w) ++ v :: List.replicate (a.length - i) 0 := fun v => by rw [← hql]; exact set_at _ _ _ _
      have hset2 : ∀ v v', ((List.replicate q 0 ++ w) ++ v :: List.replicate (a.length - i) 0).set (i + q + 1) v' = (List.replicate q 0 ++ (w ++ [v])) ++ v' :: List.replicate (a.length - (i + 1)) 0 := fun v v' => by
        have e : (List.replicate q 0 ++ w) ++ v :: List.replicate (a.length - i) 0 = (List.replicate q 0 ++ (w ++ [v])) ++ 0 :: List.replicate (a.length - (i + 1)) 0 := by
          rw [show a.length - i = a.length - (i + 1) + 1 by omega, List.replicate_succ]; simp
        rw [e, show i + q + 1 = (List.replicate q 0 ++ (w ++ [v])).length by simp [hw]; omega]
        exact set_at _ _ _ _
      have hlen2 : ∀ v, ((List.replicate q 0 ++ w) ++ v :: List.replicate (a.length - i) 0).length = q + a.length + 1 := fun v => by simp [hw]; omega
      have emin : min s 64 = s := by omega
      have hod : (o + a.getD i 0 * 2 ^ s % 4294967296) % 18446744073709551616 = o + a.getD i 0 * 2 ^ s % 4294967296 := Nat.mod_eq_of_lt (by omega)
      have hstep := shl_step (b := 4294967296) (lo := a.getD i 0 * 2 ^ s % 4294967296) (hi := a.getD i 0 * 2 ^ s / 4294967296) (x := a.getD i 0) (P := 2 ^ s) hw hinv (by omega)
      refine xRF (jn h1 (jn h6 (jn h21 (jn h22 (jn h23 (jn h5 (jn g (jn eq1 (jn eiq (jn eiq1 (jn hlen (jn hlen2 (jn hget (jn hset1 (jn hset2 (jn emin (jn m1 (jn m4 hod)))))))))))))))))) ?_
      refine ⟨a.length - (i + 1), by omega, i + 1, w ++ [o + a.getD i 0 * 2 ^ s % 4294967296], a.getD i 0 * 2 ^ s / 4294967296, ?_⟩
      have key : val 4294967296 ((w ++ [o + a.getD i 0 * 2 ^ s % 4294967296]) ++ [a.getD i 0 * 2 ^ s / 4294967296]) = val 4294967296 (a.take (i + 1)) * 2 ^ s := by
        rw [hstep, hax, Nat.add_mul, Nat.mul_assoc]
      have hlw2 := lim_snoc (v := o + a.getD i 0 * 2 ^ s % 4294967296) hlw (by omega)
      (repeat' apply And.intro) <;> first | rfl | exact key | exact hlw2 | exact m3 | (simp [hw]; done) | omega | assumption
    · have hi' : i = a.length := by omega
      subst hi'
      refine xRF (jn h1 (jn h6 (jn h21 (jn h22 (jn h23 (jn h5 g)))))) ?_
      rw [List.take_length] at hinv
      refine ⟨List.replicate q 0 ++ (w ++ [o]), ?_⟩
      have hwl : Lim 4294967296 (w ++ [o]) := lim_snoc hlw (by have := Nat.pow_le_pow_right (n := 2) (by decide) hs31; omega)
      have key : val 4294967296 (List.replicate q 0 ++ (w ++ [o])) = val 4294967296 a * 2 ^ n := by
        rw [val_zeros, hinv, pow32, Nat.mul_left_comm, ← Nat.pow_add, show 32 * q + s = n by omega]
      have e0 : (List.replicate q 0 ++ w) ++ o :: List.replicate (a.length - a.length) 0 = List.replicate q 0 ++ (w ++ [o]) := by simp
      rw [e0]
      (repeat' apply And.intro) <;> first | rfl | omega | assumption | exact key | exact (Lim.replicate (by decide)).append hwl | (simp [hw]; omega)
  rintro ⟨ρ3, σ, c5⟩ ⟨w, hw, hlw, hvw, h5, hσ, hc5⟩
  dsimp only at h5 hσ hc5
  subst hσ
  refine v_freeze 5 (t := c) (off := 0) (n := q + a.length + 1) (cap := some (q + a.length + 1)) (l := w) (ySF h5) yS (by omega) (by omega) ?_
  rw [List.drop_zero, show w.take (q + a.length + 1) = w from List.take_of_length_le (by omega)]
  refine xR ?_
  refine s_call (norm32_spec (.id c) w c5 hlw (by omega)) yM ?_
  rintro v c6 hc6 rfl
  rw [hvw]
  refine xR ?_
  exact .inr ⟨c, rfl, by omega, by omega⟩
end Go.Proofs.YtplofcianjnkmaaGreatDoor
set_option linter.unusedSimpArgs false
set_option linter.unusedVariables false
set_option maxRecDepth 100000
set_option maxHeartbeats 8000000
namespace Go.Proofs.YtplofcianjnkmaaGreatDoor
open Go.VM

theorem lenR (t : Tok) (n c : Nat) (hn : bl n ≤ 68719476736) : VSpec Tryz.prog F.surdref01_Num_Len c [nats t (digs 4294967296 n)] (fun r _ => r = iv (bl n)) :=
  len_spec t n c (Nat.le_trans (len32_bl (k := 2147483648) (by omega)) (by decide))
theorem subR (t u : Tok) (m n c : Nat) (hm : bl m ≤ 68719476736) (hle : n ≤ m) : VSpec Tryz.prog F.surdref01_Sub c [nats t (digs 4294967296 m), nats u (digs 4294967296 n)] (fun r c' => RefR c c' (m - n) r) := by
  have h := sub32_spec t u (digs 4294967296 m) (digs 4294967296 n) c (lim_digs two32 m) (lim_digs two32 n) (Nat.le_trans (len32_bl (k := 2147483648) (by omega)) (by decide)) (le_len two32 hle) (by rw [val_digs two32, val_digs two32]; exact hle)
  rw [val_digs two32, val_digs two32] at h
  exact h
theorem oneR (c : Nat) : VSpec Tryz.prog F.surdref01_Int c [iv 1] (fun r c' => RefR c c' 1 r) := int_spec 1 c (by decide)
theorem shlR (t : Tok) (m n c : Nat) (hm : bl m ≤ 68719476736) (hm0 : 0 < m) (hn : n ≤ 1099511627776) : VSpec Tryz.prog F.surdref01_Shl c [nats t (digs 4294967296 m), iv n] (fun r c' => RefR c c' (m * 2 ^ n) r) := by
  have h := shl32_spec t (digs 4294967296 m) n c (lim_digs two32 m) (Nat.le_trans (len32_bl (k := 2147483648) (by omega)) (by decide)) hn
  rw [val_digs two32] at h
  refine h.mono ?_
  rintro r c' (⟨h1, _⟩ | h1)
  · exact absurd ((digs_eq_nil two32).1 h1) (by omega)
  · exact h1

end Go.Proofs.YtplofcianjnkmaaGreatDoor
set_option linter.unusedSimpArgs false
set_option linter.unusedVariables false
set_option maxRecDepth 100000
set_option maxHeartbeats 8000000
namespace Go.VM
end Go.VM
namespace Go.Proofs.YtplofcianjnkmaaGreatDoor
open Go.VM

theorem u_and1 {b : Bool} {x : Nat} : sbin .and b (nv x) (nv 1) = some (nv (x % 2)) := by
  have e : (BitVec.ofInt 64 (x : Int) &&& BitVec.ofInt 64 1).toNat = x % 2 := by
    simp only [BitVec.ofInt_natCast, BitVec.toNat_and, BitVec.toNat_ofNat]
    have h := Nat.and_two_pow_sub_one_eq_mod (x % 2 ^ 64) 1
    show (x % 2 ^ 64) &&& (2 ^ 1 - 1) = _
    rw [h]
    omega
  show some (V.lit (.int .u64 (IntKind.u64.wrap ((BitVec.ofInt 64 (x : Int) &&& BitVec.ofInt 64 1).toNat : Int)))) = _
  rw [e, wrap_u64 (by omega) (by omega)]

end Go.Proofs.YtplofcianjnkmaaGreatDoor
namespace Go.Proofs.YtplofcianjnkmaaGreatDoor
open Go.VM

theorem zero_spec (t : Tok) (n c : Nat) (hn : (digs 4294967296 n).length ≤ 4398046511104) : VSpec Tryz.prog F.surdref01_Num_Zero c [nats t (digs 4294967296 n)] (fun r _ => r = bv (decide (n = 0))) := by
  refine spec_mk hm E.surdref01_Num_Zero B.surdref01_Num_Zero K.surdref01_Num_Zero Q.surdref01_Num_Zero (by rw [N.surdref01_Num_Zero]; simp) ?_
  unfold C.surdref01_Num_Zero R.surdref01_Num_Zero
  have hz := digs_eq_nil two32 (n := n)
  refine xR ?_
  by_cases g : n = 0
  · rw [hz.2 g, g]; rfl
  · have h1 : ¬ digs 4294967296 n = [] := fun e => g (hz.1 e)
    have h2 : 0 < (digs 4294967296 n).length := List.length_pos_iff.2 h1
    have h3 : decide (((digs 4294967296 n).length : Int) = 0) = decide (n = 0) := by rw [decide_eq_false (show ¬ ((digs 4294967296 n).length : Int) = 0 by omega), decide_eq_false g]
    rw [h3]
end Go.Proofs.YtplofcianjnkmaaGreatDoor
set_option linter.unusedVariables false
namespace Go.VM
def tz (n : Nat) : Nat := if h : n = 0 then 0 else if n % 2 = 1 then 0 else tz (n / 2) + 1
termination_by n
decreasing_by omega
theorem tz_zero : tz 0 = 0 := by rw [tz]; rfl
theorem tz_odd {n : Nat} (h : n % 2 = 1) : tz n = 0 := by
  rw [tz, dif_neg (by omega), if_pos h]
theorem tz_even {n : Nat} (h0 : n ≠ 0) (h : n % 2 = 0) : tz n = tz (n / 2) + 1 := by
  rw [tz, dif_neg h0, if_neg (by omega)]
theorem tz_two (n : Nat) (h : n ≠ 0) : tz (2 * n) = tz n + 1 := by
  rw [tz_even (by omega) (by omega), Nat.mul_div_cancel_left _ (by decide)]
theorem tz_pow {n : Nat} (h : n ≠ 0) : ∀ k, tz (2 ^ k * n) = k + tz n
  | 0 => by simp
  | k + 1 => by
    have hp : 0 < 2 ^ k := Nat.two_pow_pos k
    have e : 2 ^ (k + 1) * n = 2 * (2 ^ k * n) := by rw [Nat.pow_succ, Nat.mul_comm (2 ^ k) 2, Nat.mul_assoc]
    rw [e, tz_two _ (Nat.mul_ne_zero (by omega) h), tz_pow h k]
    omega
def od (n : Nat) : Nat := n / 2 ^ tz n
theorem tz_od {n : Nat} (h : n ≠ 0) : n = 2 ^ tz n * od n ∧ od n % 2 = 1 := by
  induction n using Nat.strongRecOn with
  | _ n ih =>
    rcases Nat.mod_two_eq_zero_or_one n with g | g
    · obtain ⟨m, rfl⟩ : ∃ m, n = 2 * m := ⟨n / 2, by omega⟩
      have hm : m ≠ 0 := by omega
      obtain ⟨h1, h2⟩ := ih m (by omega) hm
      have e := tz_two m hm
      have e2 : od (2 * m) = od m := by
        unfold od
        rw [e, Nat.pow_succ, Nat.mul_comm (2 ^ tz m) 2, Nat.mul_div_mul_left _ _ (by decide)]
      rw [e2, e]
      refine ⟨?_, h2⟩
      rw [Nat.pow_succ, Nat.mul_comm (2 ^ tz m) 2, Nat.mul_assoc, ← h1]
    · have e := tz_odd g
      unfold od
      rw [e]
      simp [g]
theorem tz_uniq {n k m : Nat} (h : n = 2 ^ k * m) (hm : m % 2 = 1) : tz n = k ∧ od n = m := by
  have e : tz n = k := by rw [h, tz_pow (by omega), tz_odd hm]; rfl
  refine ⟨e, ?_⟩
  unfold od
  rw [e, h, Nat.mul_div_cancel_left _ (Nat.two_pow_pos k)]
theorem od_pos {n : Nat} (h : n ≠ 0) : 0 < od n := by have := (tz_od h).2; omega
theorem tz_lt {n k : Nat} (h0 : n ≠ 0) (h : n < 2 ^ k) : tz n < k := by
  obtain ⟨h1, h2⟩ := tz_od h0
  have h3 : 2 ^ tz n ≤ n := by
    have := Nat.mul_le_mul_left (2 ^ tz n) (od_pos h0)
    omega
  exact (Nat.pow_lt_pow_iff_right (by decide : 1 < 2)).1 (Nat.lt_of_le_of_lt h3 h)
theorem tz_low {x r k : Nat} (hx0 : x ≠ 0) (hx : x < 2 ^ k) : tz (x + 2 ^ k * r) = tz x := by
  obtain ⟨h1, h2⟩ := tz_od hx0
  have hk := tz_lt hx0 hx
  obtain ⟨j, hj⟩ : ∃ j, k = tz x + 1 + j := ⟨k - tz x - 1, by omega⟩
  refine (tz_uniq (n := x + 2 ^ k * r) (k := tz x) (m := od x + 2 * (2 ^ j * r)) ?_ (by omega)).1
  have e : 2 ^ k * r = 2 ^ tz x * (2 * (2 ^ j * r)) := by
    rw [hj, Nat.pow_add, Nat.pow_succ]; ac_rfl
  rw [Nat.mul_add, ← h1, e]
theorem low_bit {x k : Nat} (h0 : 0 < x) (hk : x < 2 ^ k) : x &&& (2 ^ k - x) = 2 ^ tz x := by
  obtain ⟨h1, h2⟩ := tz_od (n := x) (by omega)
  obtain ⟨y, rfl⟩ : ∃ y, x = y + 1 := ⟨x - 1, by omega⟩
  obtain ⟨j, hj⟩ : ∃ j, od (y + 1) = 2 * j + 1 := ⟨od (y + 1) / 2, by omega⟩
  have ht := tz_lt (n := y + 1) (by omega) hk
  generalize tz (y + 1) = t at *
  generalize od (y + 1) = o at *
  subst hj
  have hp : 0 < 2 ^ t := Nat.two_pow_pos t
  have ey : y = 2 ^ t * (2 * j) + (2 ^ t - 1) := by
    have : 2 ^ t * (2 * j + 1) = 2 ^ t * (2 * j) + 2 ^ t := by rw [Nat.mul_add, Nat.mul_one]
    omega
  have ex : y + 1 = 2 ^ t * (2 * j + 1) + 0 := by omega
  refine Nat.eq_of_testBit_eq fun i => ?_
  rw [Nat.testBit_and, Nat.testBit_two_pow_sub_succ (by omega), Nat.testBit_two_pow]
  rw [show (y + 1).testBit i = (2 ^ t * (2 * j + 1) + 0).testBit i by rw [← ex], show y.testBit i = (2 ^ t * (2 * j) + (2 ^ t - 1)).testBit i by rw [← ey]]
  rw [Nat.testBit_two_pow_mul_add _ (by omega), Nat.testBit_two_pow_mul_add _ (by omega)]
  by_cases g : i < t
  · rw [if_pos g, if_pos g]
    have : ¬ t = i := by omega
    simp [this]
  · rw [if_neg g, if_neg g]
    rcases Nat.lt_or_ge t i with g2 | g2
    · obtain ⟨d, hd⟩ : ∃ d, i - t = d + 1 := ⟨i - t - 1, by omega⟩
      have e1 : (2 * j + 1).testBit (d + 1) = j.testBit d := by rw [Nat.testBit_succ, show (2 * j + 1) / 2 = j by omega]
      have e2 : (2 * j).testBit (d + 1) = j.testBit d := by rw [Nat.testBit_succ, show (2 * j) / 2 = j by omega]
      have : ¬ t = i := by omega
      rw [hd, e1, e2]
      cases j.testBit d <;> simp [this]
    · have : t = i := by omega
      subst this
      have hk2 : t < k := ht
      simp [hk2, Nat.testBit_zero]
end Go.VM
namespace Go.VM
def dbTab : List Nat := [0, 1, 56, 2, 57, 49, 28, 3, 61, 58, 42, 50, 38, 29, 17, 4, 62, 47, 59, 36, 45, 43, 51, 22, 53, 39, 33, 30, 24, 18, 12, 5, 63, 55, 48, 27, 60, 41, 37, 16, 46, 35, 44, 21, 52, 32, 23, 11, 54, 26, 40, 15, 34, 20, 31, 10, 25, 14, 19, 9, 13, 8, 7, 6]
theorem db_ok : ∀ k, k < 64 → (2 ^ k * 285870213051353865 % 18446744073709551616) / 288230376151711744 < 64 ∧ dbTab[(2 ^ k * 285870213051353865 % 18446744073709551616) / 288230376151711744]? = some k := by decide
theorem db_tz {x : Nat} (h0 : 0 < x) (hx : x < 18446744073709551616) : ((x &&& (18446744073709551616 - x)) * 285870213051353865 % 18446744073709551616) / 288230376151711744 < 64 ∧ dbTab[((x &&& (18446744073709551616 - x)) * 285870213051353865 % 18446744073709551616) / 288230376151711744]? = some (tz x) := by
  have h := low_bit (k := 64) h0 hx
  have h2 : x &&& (18446744073709551616 - x) = 2 ^ tz x := h
  rw [h2]
  exact db_ok (tz x) (tz_lt (k := 64) (by omega) hx)
end Go.VM
set_option linter.unusedVariables false
set_option linter.unusedSimpArgs false
namespace Go.VM

def boxS (P : Program) (dr : Bool) (c0 : Nat) (a : Option (List V)) (i : Nat) (ρ : Nat → V) (σ : Nat → Option Blk) (c : Nat) (r : List VO) (K : VS → Prop) : Prop := ∃ l, a = some l ∧ wps P dr c0 r ⟨upd ρ i (.ptr c 0), supd σ c (some ⟨l, true⟩), c + 1⟩ K
def boxAS (P : Program) (dr : Bool) (c0 n : Nat) (b : Option Blk) (a : Option (List V)) (i : Nat) (ρ : Nat → V) (σ : Nat → Option Blk) (c : Nat) (r : List VO) (K : VS → Prop) : Prop := b = none ∧ ∃ l, a = some l ∧ l.length = n ∧ wps P dr c0 r ⟨upd ρ i (.ptr c 0), supd σ c (some ⟨l, true⟩), c + 1⟩ K
section
variable {P : Program} {dr : Bool} {c0 : Nat} {S : VS} {r : List VO} {K : VS → Prop} {d : Option Nat} {i c : Nat} {ρ : Nat → V} {σ : Nat → Option Blk}
theorem q_alloc {z : List Value} : wps P dr c0 (⟨some i, .alloc z, none⟩ :: r) ⟨ρ, σ, c⟩ K = wps P dr c0 r ⟨upd ρ i (.ptr c 0), supd σ c (some ⟨vlits z, true⟩), c + 1⟩ K := by
  refine propext ⟨fun h => ?_, fun h => s_alloc h⟩
  obtain ⟨v, σ', c', kt, h, hk⟩ := opS_eff h
  cases h with
  | pure h => simp [vpure] at h
  | alloc => exact hk
theorem q_box {x : X} : wps P dr c0 (⟨some i, .box x, none⟩ :: r) ⟨ρ, σ, c⟩ K = boxS P dr c0 (x.ev ρ).cells i ρ σ c r K := by
  refine propext ⟨fun h => ?_, fun ⟨l, h1, h2⟩ => s_box h1 h2⟩
  obtain ⟨v, σ', c', kt, h, hk⟩ := opS_eff h
  cases h with
  | pure h => simp [vpure] at h
  | box h => exact ⟨_, h, hk⟩
theorem q_boxA {n : Nat} {x : X} : wps P dr c0 (⟨some i, .boxA n x, none⟩ :: r) ⟨ρ, σ, c⟩ K = boxAS P dr c0 n (σ c) (x.ev ρ).cells i ρ σ c r K := by
  refine propext ⟨fun h => ?_, fun ⟨h0, l, h1, hn, h2⟩ => s_boxA h1 hn h0 h2⟩
  obtain ⟨v, σ', c', kt, h, hk⟩ := opS_eff h
  cases h with
  | pure h => simp [vpure] at h
  | boxA hf h hn => exact ⟨hf, _, h, hn, hk⟩
theorem all_offL {p : V} {e : Nat → V} : ∀ {ys : List Nat}, (∀ i ∈ ys, V.offp p (e i)) → offL p (ys.map e)
  | [], _ => trivial
  | y :: ys, h => ⟨h y List.mem_cons_self, all_offL fun i hi => h i (List.mem_cons_of_mem _ hi)⟩
theorem q_storeA {n : Nat} {x y : X} {ys : List Nat} : wps P dr c0 (⟨none, .storeA n x y ys, none⟩ :: r) ⟨ρ, σ, c⟩ K = offS P dr c0 (x.ev ρ) (ys.map ρ) (vstore σ n (x.ev ρ) (y.ev ρ)) ρ c r K := by
  refine propext ⟨fun h => ?_, fun h => s_storeA h⟩
  obtain ⟨v, σ', c', kt, h, hk⟩ := opS_eff h
  cases h with
  | pure h => simp [vpure] at h
  | storeA ha h => exact ⟨all_offL ha, _, h, hk⟩
theorem offS_eq {p : V} {l : List V} {a : Option (Nat → Option Blk)} : offS P dr c0 p l a ρ c r K = (offL p l ∧ putS P dr c0 a ρ c r K) := Eq.trans rfl rfl
theorem boxS_some {l : List V} : boxS P dr c0 (some l) i ρ σ c r K = wps P dr c0 r ⟨upd ρ i (.ptr c 0), supd σ c (some ⟨l, true⟩), c + 1⟩ K := by simp [boxS]
theorem boxAS_some {n : Nat} {l : List V} : boxAS P dr c0 n none (some l) i ρ σ c r K = (l.length = n ∧ wps P dr c0 r ⟨upd ρ i (.ptr c 0), supd σ c (some ⟨l, true⟩), c + 1⟩ K) := by simp [boxAS]
theorem boxS_congr {a b : Option (List V)} (h : a = b) : boxS P dr c0 a i ρ σ c r K = boxS P dr c0 b i ρ σ c r K := by rw [h]
theorem boxAS_congr {n : Nat} {a b : Option (List V)} {p q : Option Blk} (h : a = b) (g : p = q) : boxAS P dr c0 n p a i ρ σ c r K = boxAS P dr c0 n q b i ρ σ c r K := by rw [h, g]
theorem offS_congr {p q : V} {l m : List V} {a b : Option (Nat → Option Blk)} (h : p = q) (g : l = m) (e : a = b) : offS P dr c0 p l a ρ c r K = offS P dr c0 q m b ρ c r K := by rw [h, g, e]
end
attribute [congr] boxS_congr boxAS_congr offS_congr

theorem cells_agg {l : List V} : V.cells (.agg l) = some l := Eq.trans rfl rfl
theorem cells_sl {t : Tok} {n : Nat} {l : List V} : V.cells (.sl t n l) = some [.sl t n l] := Eq.trans rfl rfl
theorem cells_int {k : IntKind} {n : Int} : V.cells (.lit (.int k n)) = some [.lit (.int k n)] := Eq.trans rfl rfl
theorem cells_bool {b : Bool} : V.cells (.lit (.bool b)) = some [.lit (.bool b)] := Eq.trans rfl rfl
theorem cellsB_agg {l : List V} : V.cellsB (.agg l) = some l := Eq.trans rfl rfl
theorem cellsB_sl {t : Tok} {n : Nat} {l : List V} : V.cellsB (.sl t n l) = some [.sl t n l] := Eq.trans rfl rfl
theorem cellsB_int {k : IntKind} {n : Int} : V.cellsB (.lit (.int k n)) = some [.lit (.int k n)] := Eq.trans rfl rfl
theorem cellsB_bool {b : Bool} : V.cellsB (.lit (.bool b)) = some [.lit (.bool b)] := Eq.trans rfl rfl
theorem cellsB_buf {t off n sz : Nat} {cap : Option Nat} : V.cellsB (.buf t off n cap sz) = some [.buf t off n cap sz] := Eq.trans rfl rfl

def takeF : Nat → List V → Option (List V)
  | 0, _ => some []
  | n + 1, [] => none
  | n + 1, x :: l => if x.flat = true then (takeF n l).map (x :: ·) else none
theorem takeF_zero {l : List V} : takeF 0 l = some [] := by cases l <;> rfl
theorem takeF_succ {n : Nat} {x : V} {l : List V} : takeF (n + 1) (x :: l) = if x.flat = true then (takeF n l).map (x :: ·) else none := Eq.trans rfl rfl
theorem takeF_eq : ∀ (n : Nat) (l : List V), takeF n l = if n ≤ l.length ∧ (l.take n).all V.flat = true then some (l.take n) else none
  | 0, l => by simp [takeF_zero]
  | n + 1, [] => by simp [takeF]
  | n + 1, x :: l => by
    rw [takeF_succ, takeF_eq n l]
    by_cases h : x.flat = true
    · by_cases g : n ≤ l.length ∧ (l.take n).all V.flat = true
      · rw [if_pos h, if_pos g, if_pos ⟨by simp; exact g.1, by simp [h]; simpa using g.2⟩]; rfl
      · rw [if_pos h, if_neg g, if_neg]; · rfl
        intro q
        exact g ⟨by simpa using q.1, by have := q.2; simp [h] at this; simpa using this⟩
    · rw [if_neg h, if_neg]
      intro q
      have := q.2
      simp at this
      exact h this.1
theorem vp_succ {x : V} {l : List V} {i : Nat} {ag : Option Nat} : vpart (x :: l) (i + 1) ag = vpart l i ag := by
  cases ag with
  | none => simp [vpart]
  | some n =>
    simp only [vpart, List.length_cons, List.drop_succ_cons]
    by_cases h : i + n ≤ l.length ∧ ((l.drop i).take n).all V.flat = true
    · rw [if_pos h, if_pos ⟨by omega, h.2⟩]
    · rw [if_neg h, if_neg fun q => h ⟨by omega, q.2⟩]
theorem vp_none {x : V} {l : List V} : vpart (x :: l) 0 none = some x := Eq.trans rfl rfl
theorem vp_some {l : List V} {n : Nat} : vpart l 0 (some n) = (takeF n l).map .agg := by
  rw [takeF_eq]
  simp only [vpart, Nat.zero_add, List.drop_zero]
  split <;> rfl
theorem dl_some {l : List V} {b : Bool} {ag : Option Nat} {i : Nat} : dload (some ⟨l, b⟩) ag i = vpart l i ag := Eq.trans rfl rfl
theorem flat_sl {t : Tok} {n : Nat} {l : List V} : V.flat (.sl t n l) = true := Eq.trans rfl rfl
theorem flat_lit {v : Value} : V.flat (.lit v) = true := Eq.trans rfl rfl
theorem flat_agg {l : List V} : V.flat (.agg l) = true := Eq.trans rfl rfl
theorem ld_eptr {σ : Nat → Option Blk} {ag : Option Nat} {l : List V} {i : Nat} : vload σ ag (.eptr l i) = vpart l i ag := Eq.trans rfl rfl
theorem fd_agg {off : Nat} {ag : Option Nat} {l : List V} : vfld off ag (.agg l) = vpart l off ag := Eq.trans rfl rfl
theorem fa_ptr {off t o : Nat} : vfa off (.ptr t o) = some (.ptr t (o + off)) := Eq.trans rfl rfl
theorem fa_eptr {off i : Nat} {l : List V} : vfa off (.eptr l i) = some (.eptr l (i + off)) := Eq.trans rfl rfl
theorem ds_agg {l cs : List V} {σ : Nat → Option Blk} {t n off : Nat} : dstore (some ⟨l, true⟩) σ t n off (.agg cs) = if cs.length = n ∧ off + n ≤ l.length then some (supd σ t (some ⟨putCells l off cs, true⟩)) else none := by
  simp [dstore, V.cellsB, V.cells]
theorem ds_one {l : List V} {σ : Nat → Option Blk} {t off : Nat} {v : V} (h : v.cellsB = some [v]) : dstore (some ⟨l, true⟩) σ t 1 off v = if off < l.length then some (supd σ t (some ⟨l.set off v, true⟩)) else none := by
  simp only [dstore, h]
  by_cases g : off < l.length
  · rw [if_pos g, if_pos ⟨trivial, rfl, by omega⟩]; rfl
  · rw [if_neg g, if_neg (by omega)]
theorem ds_sl {l : List V} {σ : Nat → Option Blk} {t off n : Nat} {tk : Tok} {m : List V} : dstore (some ⟨l, true⟩) σ t 1 off (.sl tk n m) = if off < l.length then some (supd σ t (some ⟨l.set off (.sl tk n m), true⟩)) else none := ds_one rfl
theorem ds_int {l : List V} {σ : Nat → Option Blk} {t off : Nat} {k : IntKind} {n : Int} : dstore (some ⟨l, true⟩) σ t 1 off (.lit (.int k n)) = if off < l.length then some (supd σ t (some ⟨l.set off (.lit (.int k n)), true⟩)) else none := ds_one rfl
theorem ds_bool {l : List V} {σ : Nat → Option Blk} {t off : Nat} {b : Bool} : dstore (some ⟨l, true⟩) σ t 1 off (.lit (.bool b)) = if off < l.length then some (supd σ t (some ⟨l.set off (.lit (.bool b)), true⟩)) else none := ds_one rfl
theorem ds_buf {l : List V} {σ : Nat → Option Blk} {t off t' o' n' sz : Nat} {cap : Option Nat} : dstore (some ⟨l, true⟩) σ t 1 off (.buf t' o' n' cap sz) = if off < l.length then some (supd σ t (some ⟨l.set off (.buf t' o' n' cap sz), true⟩)) else none := ds_one rfl
theorem pc_nil {l : List V} {i : Nat} : putCells l i [] = l := Eq.trans rfl rfl
theorem pc_cons {l xs : List V} {x : V} {i : Nat} : putCells l i (x :: xs) = putCells (l.set i x) (i + 1) xs := Eq.trans rfl rfl
theorem vl_nil : vlits [] = [] := Eq.trans rfl rfl
theorem vl_cons {v : Value} {z : List Value} : vlits (v :: z) = ofCell v :: vlits z := Eq.trans rfl rfl
theorem oc_bool {b : Bool} : ofCell (.bool b) = .lit (.bool b) := Eq.trans rfl rfl
theorem oc_int {k : IntKind} {n : Int} : ofCell (.int k n) = .lit (.int k n) := Eq.trans rfl rfl
theorem oc_nil : ofCell (.slice none 0 0) = .sl .nil 1 [] := Eq.trans rfl rfl
theorem po_nil {e : X → V} : partsOf e [] = [] := Eq.trans rfl rfl
theorem po_cons {e : X → V} {a n : Nat} {x : X} {ps : List (Nat × Nat × X)} : partsOf e ((a, n, x) :: ps) = (a, n, e x) :: partsOf e ps := Eq.trans rfl rfl
theorem vb_eq {z : List Value} {ps : List (Nat × Nat × V)} : vbuild z ps = (vfill (vlits z) ps).map .agg := Eq.trans rfl rfl
theorem vf_nil {cs : List V} : vfill cs [] = some cs := Eq.trans rfl rfl
theorem vf_agg {cs l : List V} {off n : Nat} {r : List (Nat × Nat × V)} : vfill cs ((off, n, .agg l) :: r) = if l.length = n ∧ off + n ≤ cs.length then vfill (putCells cs off l) r else none := Eq.trans rfl rfl
theorem vf_one {cs : List V} {v : V} (h : v.cells = some [v]) {off : Nat} {r : List (Nat × Nat × V)} : vfill cs ((off, 1, v) :: r) = if off < cs.length then vfill (cs.set off v) r else none := by
  simp only [vfill, h]
  by_cases g : off < cs.length
  · rw [if_pos g, if_pos ⟨rfl, by omega⟩]; rfl
  · rw [if_neg g, if_neg (by omega)]
theorem vf_sl {cs : List V} {t : Tok} {n : Nat} {l : List V} {off : Nat} {r : List (Nat × Nat × V)} : vfill cs ((off, 1, .sl t n l) :: r) = if off < cs.length then vfill (cs.set off (.sl t n l)) r else none := vf_one rfl
theorem vf_int {cs : List V} {k : IntKind} {n : Int} {off : Nat} {r : List (Nat × Nat × V)} : vfill cs ((off, 1, .lit (.int k n)) :: r) = if off < cs.length then vfill (cs.set off (.lit (.int k n))) r else none := vf_one rfl
theorem vf_bool {cs : List V} {b : Bool} {off : Nat} {r : List (Nat × Nat × V)} : vfill cs ((off, 1, .lit (.bool b)) :: r) = if off < cs.length then vfill (cs.set off (.lit (.bool b))) r else none := vf_one rfl
def oneQ (v : V) : Option V := if v.one = true then some v else none
theorem oneQ_agg {l : List V} : oneQ (.agg l) = some (.agg l) := Eq.trans rfl rfl
theorem oneQ_sl {t : Tok} {n : Nat} {l : List V} : oneQ (.sl t n l) = some (.sl t n l) := Eq.trans rfl rfl
theorem oneQ_lit {v : Value} : oneQ (.lit v) = some (.lit v) := Eq.trans rfl rfl
theorem oneQ_tup {l : List V} : oneQ (.tup l) = some (.tup l) := Eq.trans rfl rfl
def getS (a : Option V) (K : V → Prop) : Prop := ∃ r, a = some r ∧ K r
theorem getS_some {v : V} {K : V → Prop} : getS (some v) K = K v := by simp [getS]
theorem getS_congr {a b : Option V} {K : V → Prop} (h : a = b) : getS a K = getS b K := by rw [h]
attribute [congr] getS_congr
theorem vr_tmp {ρ : Nat → V} {σ : Nat → Option Blk} {c t : Nat} : vres ⟨ρ, σ, c⟩ (.tmp t) = oneQ (ρ t) := Eq.trans rfl rfl
theorem vr_cell {ρ : Nat → V} {σ : Nat → Option Blk} {c t : Nat} {ag : Option Nat} : vres ⟨ρ, σ, c⟩ (.cell t ag) = (vload σ ag (ρ t)).bind oneQ := by
  unfold vres
  simp only
  cases vload σ ag (ρ t) <;> rfl
theorem vr_nil {S : VS} : vresL S [] = some [] := Eq.trans rfl rfl
theorem vr_cons {S : VS} {r : VRes} {l : List VRes} : vresL S (r :: l) = (vres S r).bind fun v => (vresL S l).map (v :: ·) := by
  simp only [vresL]
  cases vres S r <;> cases vresL S l <;> rfl
def resV : Option (List V) → Option V | some [v] => some v | some vs => some (.tup vs) | none => none
theorem resV_1 {v : V} : resV (some [v]) = some v := Eq.trans rfl rfl
theorem resV_2 {a b : V} {l : List V} : resV (some (a :: b :: l)) = some (.tup (a :: b :: l)) := Eq.trans rfl rfl
theorem rt_any {rs : List VRes} {Q : V → Nat → Prop} {ρ : Nat → V} {σ : Nat → Option Blk} {c : Nat} : retQ rs Q .ret ⟨ρ, σ, c⟩ = getS (resV (vresL ⟨ρ, σ, c⟩ rs)) fun r => Q r c := by
  rw [retQ_ret]
  unfold getS resV vresult
  rfl
def bslS (P : Program) (dr : Bool) (c0 : Nat) (a : Option (List V)) (sz i : Nat) (ρ : Nat → V) (σ : Nat → Option Blk) (c : Nat) (r : List VO) (K : VS → Prop) : Prop := ∃ l, a = some l ∧ wps P dr c0 r ⟨upd ρ i (.sl (.id c) sz l), σ, c + 1⟩ K
def bslS0 (P : Program) (dr : Bool) (c0 : Nat) (a : Option (List V)) (sz i : Nat) (ρ : Nat → V) (σ : Nat → Option Blk) (c : Nat) (r : List VO) (K : VS → Prop) : Prop := ∃ l, a = some l ∧ wps P dr c0 r ⟨upd ρ i (.sl .unk sz l), σ, c⟩ K
section
variable {P : Program} {dr : Bool} {c0 : Nat} {S : VS} {r : List VO} {K : VS → Prop} {d : Option Nat} {i c : Nat} {ρ : Nat → V} {σ : Nat → Option Blk}
theorem q_bsl {sz len : Nat} {z : List Value} {ps : List (Nat × Nat × X)} : wps P dr c0 (⟨some i, .bsl true sz len z ps, none⟩ :: r) ⟨ρ, σ, c⟩ K = bslS P dr c0 (vfill (rept z len) (partsOf (X.ev ρ) ps)) sz i ρ σ c r K := by
  refine propext ⟨fun h => ?_, fun ⟨l, h1, h2⟩ => s_eff rfl (by intros; exact fun h => by cases h) (by intros; exact fun h => by cases h) ⟨_, _, _, none, .bsl h1, h2⟩⟩
  obtain ⟨v, σ', c', kt, h, hk⟩ := opS_eff h
  cases h with
  | pure h => simp [vpure] at h
  | bsl h => exact ⟨_, h, hk⟩
theorem q_bsl0 {sz len : Nat} {z : List Value} {ps : List (Nat × Nat × X)} : wps P dr c0 (⟨some i, .bsl false sz len z ps, none⟩ :: r) ⟨ρ, σ, c⟩ K = bslS0 P dr c0 (vfill (rept z len) (partsOf (X.ev ρ) ps)) sz i ρ σ c r K := by
  refine propext ⟨fun h => ?_, fun ⟨l, h1, h2⟩ => s_eff rfl (by intros; exact fun h => by cases h) (by intros; exact fun h => by cases h) ⟨_, _, _, none, .bsl0 h1, h2⟩⟩
  obtain ⟨v, σ', c', kt, h, hk⟩ := opS_eff h
  cases h with
  | pure h => simp [vpure] at h
  | bsl0 h => exact ⟨_, h, hk⟩
theorem bslS_some {l : List V} {sz : Nat} : bslS P dr c0 (some l) sz i ρ σ c r K = wps P dr c0 r ⟨upd ρ i (.sl (.id c) sz l), σ, c + 1⟩ K := by simp [bslS]
theorem bslS0_some {l : List V} {sz : Nat} : bslS0 P dr c0 (some l) sz i ρ σ c r K = wps P dr c0 r ⟨upd ρ i (.sl .unk sz l), σ, c⟩ K := by simp [bslS0]
theorem bslS_congr {a b : Option (List V)} {sz : Nat} (h : a = b) : bslS P dr c0 a sz i ρ σ c r K = bslS P dr c0 b sz i ρ σ c r K := by rw [h]
theorem bslS0_congr {a b : Option (List V)} {sz : Nat} (h : a = b) : bslS0 P dr c0 a sz i ρ σ c r K = bslS0 P dr c0 b sz i ρ σ c r K := by rw [h]
end
attribute [congr] bslS_congr bslS0_congr
theorem rp_zero {z : List Value} : rept z 0 = [] := Eq.trans rfl rfl
theorem rp_succ {z : List Value} {n : Nat} : rept z (n + 1) = vlits z ++ rept z n := Eq.trans rfl rfl
theorem ix_sl {sz : Nat} {t : Tok} {l : List V} {n : Int} : vixa sz (.sl t sz l) (iv n) = if 0 ≤ n ∧ n.toNat < l.length / sz then some (.eptr l (n.toNat * sz)) else none := by simp [vixa]
theorem ln_sl {sz : Nat} {t : Tok} {l : List V} : vlen (.sl t sz l) = some (iv ((l.length / sz : Nat) : Int)) := Eq.trans rfl rfl
def nextQ (P : Program) (c0 : Nat) (b : VC) (Q : VEx → VS → Prop) : VEx → VS → Prop
  | .normal, S => VWP P c0 (.loop b) Q S
  | e, S => Q e S
theorem nextQ_normal {P : Program} {c0 : Nat} {b : VC} {Q : VEx → VS → Prop} {S : VS} : nextQ P c0 b Q .normal S = VWP P c0 (.loop b) Q S := Eq.trans rfl rfl
theorem nextQ_exit {P : Program} {c0 : Nat} {b : VC} {Q : VEx → VS → Prop} {S : VS} {j : Nat} : nextQ P c0 b Q (.exit j) S = Q (.exit j) S := Eq.trans rfl rfl
theorem nextQ_ret {P : Program} {c0 : Nat} {b : VC} {Q : VEx → VS → Prop} {S : VS} : nextQ P c0 b Q .ret S = Q .ret S := Eq.trans rfl rfl
theorem v_next {P : Program} {c0 : Nat} {b : VC} {Q : VEx → VS → Prop} {S : VS} (h : VWP P c0 b (nextQ P c0 b Q) S) : VWP P c0 (.loop b) Q S := by
  obtain ⟨e, S1, h1, h2⟩ := h
  cases e with
  | normal =>
    obtain ⟨e, S', h3, h4⟩ := h2
    exact ⟨e, S', .loop h1 h3, h4⟩
  | exit j => exact ⟨_, S1, .loopOut h1 (fun h => by cases h), h2⟩
  | ret => exact ⟨_, S1, .loopOut h1 (fun h => by cases h), h2⟩
attribute [irreducible] nextQ
theorem b_neS {a : Bool} : sbin .neq true (bv a) (bv a) = some (bv false) := by cases a <;> rfl
theorem b_ne1 : sbin .neq true (bv false) (bv true) = some (bv true) := Eq.trans rfl rfl
theorem b_ne2 : sbin .neq true (bv true) (bv false) = some (bv true) := Eq.trans rfl rfl
theorem b_eqS {a : Bool} : sbin .eql true (bv a) (bv a) = some (bv true) := by cases a <;> rfl
theorem b_eq1 : sbin .eql true (bv false) (bv true) = some (bv false) := Eq.trans rfl rfl
theorem b_eq2 : sbin .eql true (bv true) (bv false) = some (bv false) := Eq.trans rfl rfl
theorem k_ne {α : Sort _} {a b : Nat} {x y : α} (h : a ≠ b) : (if a = b then x else y) = y := if_neg h
theorem vst : type_of% (And.intro @b_neS (And.intro @b_ne1 (And.intro @b_ne2 (And.intro @b_eqS (And.intro @b_eq1 (And.intro @b_eq2 (And.intro @q_bsl (And.intro @q_bsl0 (And.intro @bslS_some (And.intro @bslS0_some (And.intro @rp_zero (And.intro @rp_succ (And.intro @ix_sl (And.intro @ln_sl (And.intro @nextQ_normal (And.intro @nextQ_exit (And.intro @nextQ_ret (And.intro @q_alloc (And.intro @q_box (And.intro @q_boxA (And.intro @q_storeA (And.intro @offS_eq (And.intro @boxS_some (And.intro @boxAS_some (And.intro @offL_nil (And.intro @offL_cons (And.intro @offp_ptr (And.intro @cells_agg (And.intro @cells_sl (And.intro @cells_int (And.intro @cells_bool (And.intro @cellsB_agg (And.intro @cellsB_sl (And.intro @cellsB_int (And.intro @cellsB_bool (And.intro @cellsB_buf (And.intro @takeF_zero (And.intro @takeF_succ (And.intro @vp_succ (And.intro @vp_none (And.intro @vp_some (And.intro @dl_some (And.intro @flat_sl (And.intro @flat_lit (And.intro @flat_agg (And.intro @ld_eptr (And.intro @fd_agg (And.intro @fa_ptr (And.intro @fa_eptr (And.intro @ds_agg (And.intro @ds_sl (And.intro @ds_int (And.intro @ds_bool (And.intro @ds_buf (And.intro @pc_nil (And.intro @pc_cons (And.intro @vl_nil (And.intro @vl_cons (And.intro @oc_bool (And.intro @oc_int (And.intro @oc_nil (And.intro @po_nil (And.intro @po_cons (And.intro @vb_eq (And.intro @vf_nil (And.intro @vf_agg (And.intro @vf_sl (And.intro @vf_int (And.intro @vf_bool (And.intro @oneQ_agg (And.intro @oneQ_sl (And.intro @oneQ_lit (And.intro @oneQ_tup (And.intro @getS_some (And.intro @vr_tmp (And.intro @vr_cell (And.intro @vr_nil (And.intro @vr_cons (And.intro @resV_1 (And.intro @resV_2 (And.intro @rt_any @s_build))))))))))))))))))))))))))))))))))))))))))))))))))))))))))))))))))))))))))))))))) :=
  (And.intro @b_neS (And.intro @b_ne1 (And.intro @b_ne2 (And.intro @b_eqS (And.intro @b_eq1 (And.intro @b_eq2 (And.intro @q_bsl (And.intro @q_bsl0 (And.intro @bslS_some (And.intro @bslS0_some (And.intro @rp_zero (And.intro @rp_succ (And.intro @ix_sl (And.intro @ln_sl (And.intro @nextQ_normal (And.intro @nextQ_exit (And.intro @nextQ_ret (And.intro @q_alloc (And.intro @q_box (And.intro @q_boxA (And.intro @q_storeA (And.intro @offS_eq (And.intro @boxS_some (And.intro @boxAS_some (And.intro @offL_nil (And.intro @offL_cons (And.intro @offp_ptr (And.intro @cells_agg (And.intro @cells_sl (And.intro @cells_int (And.intro @cells_bool (And.intro @cellsB_agg (And.intro @cellsB_sl (And.intro @cellsB_int (And.intro @cellsB_bool (And.intro @cellsB_buf (And.intro @takeF_zero (And.intro @takeF_succ (And.intro @vp_succ (And.intro @vp_none (And.intro @vp_some (And.intro @dl_some (And.intro @flat_sl (And.intro @flat_lit (And.intro @flat_agg (And.intro @ld_eptr (And.intro @fd_agg (And.intro @fa_ptr (And.intro @fa_eptr (And.intro @ds_agg (And.intro @ds_sl (And.intro @ds_int (And.intro @ds_bool (And.intro @ds_buf (And.intro @pc_nil (And.intro @pc_cons (And.intro @vl_nil (And.intro @vl_cons (And.intro @oc_bool (And.intro @oc_int (And.intro @oc_nil (And.intro @po_nil (And.intro @po_cons (And.intro @vb_eq (And.intro @vf_nil (And.intro @vf_agg (And.intro @vf_sl (And.intro @vf_int (And.intro @vf_bool (And.intro @oneQ_agg (And.intro @oneQ_sl (And.intro @oneQ_lit (And.intro @oneQ_tup (And.intro @getS_some (And.intro @vr_tmp (And.intro @vr_cell (And.intro @vr_nil (And.intro @vr_cons (And.intro @resV_1 (And.intro @resV_2 (And.intro @rt_any @s_build)))))))))))))))))))))))))))))))))))))))))))))))))))))))))))))))))))))))))))))))))
theorem zS {p q : Prop} (h : q) (e : Hid q → p := by intro h0; simp (maxSteps := 4000000) (disch := omega) only [vm, ite_true, ite_false, eq_self, reduceIte, Nat.reduceEqDiff, Option.map, vst, List.length_cons, List.length_nil, List.set_cons_zero, List.set_cons_succ, List.map_cons, List.map_nil, Option.map_some, Option.bind_some, Nat.reduceAdd, Nat.reduceLT, Nat.reduceLeDiff, Nat.add_zero, and_self, k_ne, Nat.add_left_cancel_iff, ne_eq, Int.reduceEq, Int.reduceLT, Int.reduceLE, List.cons_append, List.nil_append, Nat.reduceDiv, Nat.reduceMul, Int.reduceToNat, Int.reduceAdd, Int.cast_ofNat_Int]; exact h0.out) : p := e ⟨h⟩
theorem zSF {f p q : Prop} (hf : f) (h : q) (e : f → Hid q → p := by intro f0 h0; simp (maxSteps := 4000000) (disch := omega) only [vm, ite_true, ite_false, eq_self, reduceIte, Nat.reduceEqDiff, Option.map, vst, List.length_cons, List.length_nil, List.set_cons_zero, List.set_cons_succ, List.map_cons, List.map_nil, Option.map_some, Option.bind_some, Nat.reduceAdd, Nat.reduceLT, Nat.reduceLeDiff, Nat.add_zero, and_self, k_ne, Nat.add_left_cancel_iff, ne_eq, Int.reduceEq, Int.reduceLT, Int.reduceLE, List.cons_append, List.nil_append, Nat.reduceDiv, Nat.reduceMul, Int.reduceToNat, Int.reduceAdd, Int.cast_ofNat_Int, f0]; exact h0.out) : p := e hf ⟨h⟩
theorem zR {p q : Prop} (h : q) (e : Hid q → p := by intro h0; (repeat (first | refine v_reg ?_ | refine v_last ?_ | refine vwp_seq ?_ | refine vwp_block ?_ | refine vwp_skip ?_ | refine vwp_exit ?_ | refine vwp_ret ?_ | refine v_cond ?_ | simp (maxSteps := 4000000) (disch := omega) only [vm, ite_true, ite_false, eq_self, reduceIte, Nat.reduceEqDiff, Option.map, vst, List.length_cons, List.length_nil, List.set_cons_zero, List.set_cons_succ, List.map_cons, List.map_nil, Option.map_some, Option.bind_some, Nat.reduceAdd, Nat.reduceLT, Nat.reduceLeDiff, Nat.add_zero, and_self, k_ne, Nat.add_left_cancel_iff, ne_eq, Int.reduceEq, Int.reduceLT, Int.reduceLE, List.cons_append, List.nil_append, Nat.reduceDiv, Nat.reduceMul, Int.reduceToNat, Int.reduceAdd, Int.cast_ofNat_Int] | refine And.intro (by omega) ?_)); exact h0.out) : p := e ⟨h⟩
theorem zRF {f p q : Prop} (hf : f) (h : q) (e : f → Hid q → p := by intro f0 h0; (repeat (first | refine v_reg ?_ | refine v_last ?_ | refine vwp_seq ?_ | refine vwp_block ?_ | refine vwp_skip ?_ | refine vwp_exit ?_ | refine vwp_ret ?_ | refine v_cond ?_ | simp (maxSteps := 4000000) (disch := omega) only [vm, ite_true, ite_false, eq_self, reduceIte, Nat.reduceEqDiff, Option.map, vst, List.length_cons, List.length_nil, List.set_cons_zero, List.set_cons_succ, List.map_cons, List.map_nil, Option.map_some, Option.bind_some, Nat.reduceAdd, Nat.reduceLT, Nat.reduceLeDiff, Nat.add_zero, and_self, k_ne, Nat.add_left_cancel_iff, ne_eq, Int.reduceEq, Int.reduceLT, Int.reduceLE, List.cons_append, List.nil_append, Nat.reduceDiv, Nat.reduceMul, Int.reduceToNat, Int.reduceAdd, Int.cast_ofNat_Int, f0] | refine And.intro (by omega) ?_)); exact h0.out) : p := e hf ⟨h⟩
theorem wS {p : Prop} (e : p := by simp (maxSteps := 4000000) (disch := omega) only [vm, ite_true, ite_false, eq_self, reduceIte, Nat.reduceEqDiff, Option.map, vst, List.length_cons, List.length_nil, List.set_cons_zero, List.set_cons_succ, List.map_cons, List.map_nil, Option.map_some, Option.bind_some, Nat.reduceAdd, Nat.reduceLT, Nat.reduceLeDiff, Nat.add_zero, and_self, k_ne, Nat.add_left_cancel_iff, ne_eq, Int.reduceEq, Int.reduceLT, Int.reduceLE, List.cons_append, List.nil_append, Nat.reduceDiv, Nat.reduceMul, Int.reduceToNat, Int.reduceAdd, Int.cast_ofNat_Int]) : p := e
theorem wSr {p : Prop} (e : p := by simp (maxSteps := 4000000) (disch := omega) only [vm, ite_true, ite_false, eq_self, reduceIte, Nat.reduceEqDiff, Option.map, vst, List.length_cons, List.length_nil, List.set_cons_zero, List.set_cons_succ, List.map_cons, List.map_nil, Option.map_some, Option.bind_some, Nat.reduceAdd, Nat.reduceLT, Nat.reduceLeDiff, Nat.add_zero, and_self, k_ne, Nat.add_left_cancel_iff, ne_eq, Int.reduceEq, Int.reduceLT, Int.reduceLE, List.cons_append, List.nil_append, Nat.reduceDiv, Nat.reduceMul, Int.reduceToNat, Int.reduceAdd, Int.cast_ofNat_Int]; rfl) : p := e
theorem wSF {f p : Prop} (hf : f) (e : f → p := by intro f0; simp (maxSteps := 4000000) (disch := omega) only [vm, ite_true, ite_false, eq_self, reduceIte, Nat.reduceEqDiff, Option.map, vst, List.length_cons, List.length_nil, List.set_cons_zero, List.set_cons_succ, List.map_cons, List.map_nil, Option.map_some, Option.bind_some, Nat.reduceAdd, Nat.reduceLT, Nat.reduceLeDiff, Nat.add_zero, and_self, k_ne, Nat.add_left_cancel_iff, ne_eq, Int.reduceEq, Int.reduceLT, Int.reduceLE, List.cons_append, List.nil_append, Nat.reduceDiv, Nat.reduceMul, Int.reduceToNat, Int.reduceAdd, Int.cast_ofNat_Int, f0]) : p := e hf
theorem wSrF {f p : Prop} (hf : f) (e : f → p := by intro f0; simp (maxSteps := 4000000) (disch := omega) only [vm, ite_true, ite_false, eq_self, reduceIte, Nat.reduceEqDiff, Option.map, vst, List.length_cons, List.length_nil, List.set_cons_zero, List.set_cons_succ, List.map_cons, List.map_nil, Option.map_some, Option.bind_some, Nat.reduceAdd, Nat.reduceLT, Nat.reduceLeDiff, Nat.add_zero, and_self, k_ne, Nat.add_left_cancel_iff, ne_eq, Int.reduceEq, Int.reduceLT, Int.reduceLE, List.cons_append, List.nil_append, Nat.reduceDiv, Nat.reduceMul, Int.reduceToNat, Int.reduceAdd, Int.cast_ofNat_Int, f0]; rfl) : p := e hf
end Go.VM
set_option linter.unusedSimpArgs false
set_option linter.unusedVariables false
set_option maxRecDepth 100000
set_option maxHeartbeats 8000000
namespace Go.Proofs.YtplofcianjnkmaaGreatDoor
open Go.VM

theorem u_neg {x : Nat} : vun .neg (nv x) = some (nv ((18446744073709551616 - x % 18446744073709551616) % 18446744073709551616)) := by
  simp only [vun]
  have : IntKind.u64.wrap (0 - (x : Int)) = (((18446744073709551616 - x % 18446744073709551616) % 18446744073709551616 : Nat) : Int) := by
    simp only [IntKind.wrap, IntKind.signed, IntKind.bits]
    simp
    omega
  rw [this]
theorem ax_g {n sz g off x : Nat} : vaxa n sz (.gptr g off) (nv x) = if x < n then some (.gptr g (off + x * sz)) else none := by
  simp [vaxa]
theorem ld_tab {σ : Nat → Option Blk} {i k : Nat} (h : dbTab[i]? = some k) : vload σ none (.gptr 0 i) = some (.lit (.int .u8 (k : Int))) := by
  have e : ∀ (l : List Nat) (j : Nat) (k : Nat), l[j]? = some k → ((l.map fun z : Nat => Value.int .u8 (z : Int)).map ofCell)[j]? = some (.lit (.int .u8 (k : Int))) := by
    intro l j k h
    rw [List.getElem?_map, List.getElem?_map, h]
    rfl
  have e2 : GT 0 = some (dbTab.map fun z : Nat => Value.int .u8 (z : Int)) := rfl
  simp only [vload, e2, vpart]
  exact e _ _ _ h

theorem tz64_spec (x c : Nat) (h0 : 0 < x) (hx : x < 18446744073709551616) : VSpec Tryz.prog F.bits_TrailingZeros64 c [nv x] (fun r _ => r = iv (tz x)) := by
  refine spec_mk hm E.bits_TrailingZeros64 B.bits_TrailingZeros64 K.bits_TrailingZeros64 Q.bits_TrailingZeros64 (by rw [N.bits_TrailingZeros64]; simp) ?_
  unfold C.bits_TrailingZeros64 R.bits_TrailingZeros64
  obtain ⟨h1, h2⟩ := db_tz h0 hx
  have h3 : (18446744073709551616 - x % 18446744073709551616) % 18446744073709551616 = 18446744073709551616 - x := by omega
  have h4 : x &&& (18446744073709551616 - x) = 2 ^ tz x := low_bit (k := 64) h0 hx
  have h5 : x % 18446744073709551616 &&& (18446744073709551616 - x) % 18446744073709551616 = x &&& (18446744073709551616 - x) := by rw [Nat.mod_eq_of_lt hx, Nat.mod_eq_of_lt (by omega)]
  have hne : ¬ x = 0 := by omega
  have hp : 2 ^ min 58 64 = 288230376151711744 := by decide
  refine xRF hne ?_
  simp only [u_neg, u_and, h3, h5, vm, ite_true, ite_false, eq_self, reduceIte, Nat.reduceEqDiff, Option.map, hp, ax_g, h1]
  simp only [Nat.mul_one, ld_tab h2, vm, ite_true, ite_false, eq_self, reduceIte, Nat.reduceEqDiff, Option.map]
  have ht := tz_lt (k := 64) (by omega) hx
  rw [c_8i (by omega)]
  refine xR ?_
  exact Nat.le_refl _
end Go.Proofs.YtplofcianjnkmaaGreatDoor
set_option linter.unusedSimpArgs false
set_option linter.unusedVariables false
set_option maxRecDepth 100000
set_option maxHeartbeats 8000000
namespace Go.Proofs.YtplofcianjnkmaaGreatDoor
open Go.VM

theorem tz_limb {x R : Nat} (i : Nat) (h0 : 0 < x) (hx : x < 18446744073709551616) : tz (2 ^ (64 * i) * (x + 18446744073709551616 * R)) = 64 * i + tz x := by
  rw [tz_pow (by omega)]
  have := tz_low (k := 64) (r := R) (by omega : x ≠ 0) hx
  rw [show (2 : Nat) ^ 64 = 18446744073709551616 by decide] at this
  rw [this]

theorem tail_spec (t : Tok) (l : List Nat) (c : Nat) (hl : Lim 18446744073709551616 l) (hn : l.length ≤ 4398046511104) : VSpec Tryz.prog F.nat_Tail c [nats t l] (fun r _ => r = iv (tz (val 18446744073709551616 l) : Nat)) := by
  refine spec_mk hm E.nat_Tail B.nat_Tail K.nat_Tail Q.nat_Tail (by rw [N.nat_Tail]; simp) ?_
  unfold C.nat_Tail R.nat_Tail
  refine xR ?_
  refine v_loopR (fun S => S.σ = noBlk ∧ c ≤ S.c ∧ val 18446744073709551616 l = 0) ?_ ?_
  · refine vwp_loop (fun k S => ∃ i, k = l.length - i ∧ i ≤ l.length ∧ S.ρ 5 = nats t l ∧ S.ρ 6 = iv l.length ∧ S.ρ 7 = iv i ∧ val 18446744073709551616 l = 2 ^ (64 * i) * val 18446744073709551616 (l.drop i) ∧ S.σ = noBlk ∧ c ≤ S.c) l.length ?_ ?_
    · refine ⟨0, by omega, by omega, ?_⟩
      refine xS ?_
      (repeat' apply And.intro) <;> first | rfl | omega | assumption | simp
    rintro k ⟨ρ, σ, c3⟩ ⟨i, hk, hi, h5, h6, h7, hv, hσ, hc3⟩
    dsimp only at h5 h6 h7 hσ hc3
    subst hσ
    by_cases g : (i : Int) < l.length
    · have hi' : i < l.length := by omega
      have hd := val_drop (b := 18446744073709551616) hi'
      have hx := hl.getD (i := i) (by decide)
      by_cases g2 : l.getD i 0 = 0
      · refine xRF (jn h5 (jn h6 (jn h7 (jn g g2)))) ?_
        refine ⟨l.length - (i + 1), by omega, i + 1, ?_⟩
        have hv2 : val 18446744073709551616 l = 2 ^ (64 * (i + 1)) * val 18446744073709551616 (l.drop (i + 1)) := by
          rw [hv, hd, g2, Nat.zero_add, Nat.mul_add, Nat.pow_add, Nat.mul_assoc]
        (repeat' apply And.intro) <;> first | rfl | omega | assumption
      · refine xRF (jn h5 (jn h6 (jn h7 (jn g g2)))) ?_
        refine s_call (tz64_spec _ c3 (by omega) hx) yM ?_
        rintro v c4 hc4 rfl
        have ht := tz_lt (k := 64) g2 hx
        refine xR ?_
        have hv2 : tz (val 18446744073709551616 l) = 64 * i + tz (l.getD i 0) := by rw [hv, hd]; exact tz_limb i (by omega) hx
        rw [hv2]
        (repeat' apply And.intro) <;> first | rfl | omega | assumption | (push_cast; rfl)
    · have : i = l.length := by omega
      subst this
      rw [List.drop_length] at hv
      refine xRF (jn h5 (jn h6 (jn h7 g))) ?_
      (repeat' apply And.intro) <;> first | rfl | omega | assumption | (rw [hv]; rfl)
  rintro ⟨ρ3, σ, c5⟩ ⟨hσ, hc5, hv⟩
  dsimp only at hσ hc5
  subst hσ
  refine xR ?_
  rw [hv, tz_zero]
  (repeat' apply And.intro) <;> first | rfl | omega | assumption
end Go.Proofs.YtplofcianjnkmaaGreatDoor
set_option linter.unusedSimpArgs false
set_option linter.unusedVariables false
set_option maxRecDepth 100000
set_option maxHeartbeats 8000000
namespace Go.Proofs.YtplofcianjnkmaaGreatDoor
open Go.VM

theorem val_right (x : List Nat) (n : Nat) (hx : Lim 18446744073709551616 x) : val 18446744073709551616 x / 2 ^ n = val 18446744073709551616 (x.drop (n / 64)) / 2 ^ (n % 64) := by
  have e : 2 ^ n = 18446744073709551616 ^ (n / 64) * 2 ^ (n % 64) := by rw [pow64, ← Nat.pow_add, Nat.div_add_mod]
  rw [e, ← Nat.div_div_eq_div_mul]
  congr 1
  rcases Nat.lt_or_ge x.length (n / 64) with g | g
  · rw [List.drop_eq_nil_of_le (Nat.le_of_lt g)]
    exact Nat.div_eq_of_lt (Nat.lt_of_lt_of_le (val_lt hx) (Nat.pow_le_pow_right (by decide) (Nat.le_of_lt g)))
  · have h := val_take_drop 18446744073709551616 (n / 64) x g
    have h2 : val 18446744073709551616 (x.take (n / 64)) < 18446744073709551616 ^ (n / 64) := by
      have := val_lt (hx.take (k := n / 64))
      rwa [List.length_take, Nat.min_eq_left g] at this
    rw [h, Nat.add_mul_div_left _ _ (Nat.pow_pos (by decide)), Nat.div_eq_of_lt h2, Nat.zero_add]

theorem right_spec (t : Tok) (a : List Nat) (n c : Nat) (ha : Lim 18446744073709551616 a) (hna : a.length ≤ 1099511627776) (hn : n ≤ 1099511627776) : VSpec Tryz.prog F.nat_Right c [nats t a, iv (n : Int)] (fun r c' => Told c c' (val 18446744073709551616 a / 2 ^ n) r) := by
  refine spec_mk hm E.nat_Right B.nat_Right K.nat_Right Q.nat_Right (by rw [N.nat_Right]; simp) ?_
  unfold C.nat_Right R.nat_Right
  have hla := digs_len_le two64 ha
  have g1 : ¬ (n : Int) < 0 := by omega
  have g2 : ¬ (1099511627776 : Int) < n := by omega
  have d1 : (n : Int) / 64 = ((n / 64 : Nat) : Int) := by omega
  have d2 : (n : Int) % 64 = ((n % 64 : Nat) : Int) := by omega
  have d3 : ((n % 64 : Nat) : Int).toNat = n % 64 := by omega
  refine xRF (jn g1 g2) ?_
  refine s_call (trim_spec t a c ha (by omega)) yM ?_
  rintro v c2 hc2 rfl
  have hx := lim_digs two64 (val 18446744073709551616 a)
  have va := val_digs two64 (val 18446744073709551616 a)
  generalize digs 18446744073709551616 (val 18446744073709551616 a) = x at *
  have hvr := val_right x n hx
  rw [va] at hvr
  obtain ⟨q, hq⟩ : ∃ q, q = n / 64 := ⟨_, rfl⟩
  obtain ⟨s, hs⟩ : ∃ s, s = n % 64 := ⟨_, rfl⟩
  rw [← hq, ← hs] at hvr
  rw [← hq] at d1
  rw [← hs] at d2 d3
  by_cases g3 : (x.length : Int) ≤ (q : Int)
  · have hx0 : x.drop q = [] := List.drop_eq_nil_of_le (by omega)
    refine xRF (jn g1 (jn g2 (jn d1 (jn d2 (jn d3 g3))))) ?_
    rw [hvr, hx0]
    refine .inl ⟨?_, .nil, ?_, .inl rfl⟩
    · rw [val_nil, Nat.zero_div]; decide
    · rw [val_nil, Nat.zero_div]; rfl
  have hlX : (x.drop q).length = x.length - q := List.length_drop
  have hg : ∀ j, x.getD (q + j) 0 = (x.drop q).getD j 0 := fun j => by
    rw [List.getD_eq_getElem?_getD, List.getD_eq_getElem?_getD, List.getElem?_drop]
  have hX := hx.drop (k := q)
  obtain ⟨m, hm⟩ : ∃ m, m = x.length - q := ⟨_, rfl⟩
  have hm2 : (x.length : Int) - (q : Int) = (m : Int) := by omega
  refine xRF (jn g1 (jn g2 (jn d1 (jn d2 (jn d3 (jn g3 hm2)))))) ?_
  refine s_mk (n := m) (m := m) yS yS (Nat.le_refl _) (by omega) ?_
  have hs64 : s < 64 := by omega
  have hp : (18446744073709551616 : Nat) = 2 ^ s * 2 ^ (64 - s) := by rw [← Nat.pow_add, show s + (64 - s) = 64 by omega]
  refine xR ?_
  refine v_loop (fun S => ∃ w, w.length = m ∧ Lim 18446744073709551616 w ∧ val 18446744073709551616 w = val 18446744073709551616 (x.drop q) / 2 ^ s ∧ S.ρ 8 = .buf c2 0 m (some m) 1 ∧ S.σ = supd noBlk c2 (nblk w) ∧ c2 + 1 ≤ S.c) ?_ ?_
  · refine vwp_loop (fun k S => ∃ i w, k = m - i ∧ i ≤ m ∧ w.length = i ∧ Lim 18446744073709551616 w ∧ val 18446744073709551616 w * 2 ^ s + (x.drop q).getD 0 0 % 2 ^ s = val 18446744073709551616 ((x.drop q).take i) + 18446744073709551616 ^ i * ((x.drop q).getD i 0 % 2 ^ s) ∧ S.ρ 0 = nats t x ∧ S.ρ 6 = iv q ∧ S.ρ 7 = nv s ∧ S.ρ 33 = iv m ∧ S.ρ 34 = iv i ∧ S.ρ 8 = .buf c2 0 m (some m) 1 ∧ S.σ = supd noBlk c2 (nblk (w ++ List.replicate (m - i) 0)) ∧ c2 + 1 ≤ S.c) m ?_ ?_
    · refine ⟨0, [], by omega, by omega, ?_⟩
      refine xS ?_
      (repeat' apply And.intro) <;> first | rfl | omega | assumption | exact Lim.nil | (rw [d3]) | (simp [val]; done)
    rintro k ⟨ρ2, σ, c4⟩ ⟨i, w, hk, hi, hw, hlw, hinv, h0, h6, h7, h33, h34, h8, hσ, hc4⟩
    dsimp only at h0 h6 h7 h33 h34 h8 hσ hc4
    subst hσ
    by_cases g : (i : Int) < m
    · have hi' : i < m := by omega
      have hxi := hX.getD (i := i) (by decide)
      obtain ⟨o1, o2⟩ := down_limb (y := (x.drop q).getD (i + 1) 0) hs64 hxi
      have e1 : ((q : Int) + (i : Int)).toNat = q + i := by omega
      have e1b : q + i < x.length := by omega
      have e2 : ((q : Int) + (i : Int) + 1).toNat = q + (i + 1) := by omega
      have e3 : min s 64 = s := by omega
      have e4 : (63 + (18446744073709551616 - s % 18446744073709551616)) % 18446744073709551616 = 63 - s := by omega
      have e5 : min (63 - s) 64 = 63 - s := by omega
      have e6 : (x.drop q).getD i 0 / 2 ^ s < 18446744073709551616 := Nat.lt_of_le_of_lt (Nat.div_le_self _ _) hxi
      have e7 : (x.drop q).getD i 0 / 2 ^ s % 18446744073709551616 = (x.drop q).getD i 0 / 2 ^ s := Nat.mod_eq_of_lt e6
      have hlen1 : (w ++ List.replicate (m - i) 0).length = m := by simp; omega
      have hset1 : ∀ v, (w ++ List.replicate (m - i) 0).set i v = w ++ v :: List.replicate (m - (i + 1)) 0 := fun v => by
        conv => lhs; rw [← hw]
        rw [show m - w.length = m - (i + 1) + 1 by omega, List.replicate_succ, set_at]
      have hlen2 : ∀ v, (w ++ v :: List.replicate (m - (i + 1)) 0).length = m := fun v => by simp; omega
      have hget2 : ∀ v, (w ++ v :: List.replicate (m - (i + 1)) 0).getD i 0 = v := fun v => by rw [← hw]; exact getD_at _ _ _
      have hset2 : ∀ v u, (w ++ v :: List.replicate (m - (i + 1)) 0).set i u = w ++ u :: List.replicate (m - (i + 1)) 0 := fun v u => by
        conv => lhs; rw [← hw]
        rw [set_at, hw]
      have key := down_step (y := (x.drop q).getD (i + 1) 0) hw hinv hp rfl
      rw [← val_take (l := x.drop q) (i := i) (by omega)] at key
      have eapp : ∀ v, w ++ v :: List.replicate (m - (i + 1)) 0 = (w ++ [v]) ++ List.replicate (m - (i + 1)) 0 := fun v => by simp
      by_cases g5 : (q : Int) + (i : Int) + 1 < x.length
      · have e2b : q + (i + 1) < x.length := by omega
        refine xRF (jn h0 (jn h6 (jn h7 (jn h33 (jn h34 (jn h8 (jn g (jn g5 (jn e1 (jn e1b (jn e2 (jn e2b (jn hg (jn e3 (jn e4 (jn e5 (jn e7 (jn hlen1 (jn hset1 (jn hlen2 (jn hget2 (jn hset2 (jn @u_or (jn @Nat.mod_mod o1)))))))))))))))))))))))) ?_
        refine ⟨m - (i + 1), by omega, i + 1, w ++ [(x.drop q).getD i 0 / 2 ^ s + ((x.drop q).getD (i + 1) 0 % 2 ^ s) * 2 ^ (64 - s)], ?_⟩
        rw [eapp]
        (repeat' apply And.intro) <;> first | rfl | exact key | exact lim_snoc hlw o2 | (simp [hw]; done) | omega | assumption
      · have hy : (x.drop q).getD (i + 1) 0 = 0 := getD_ge (by omega)
        rw [hy, Nat.zero_mod, Nat.zero_mul, Nat.add_zero] at key
        refine xRF (jn h0 (jn h6 (jn h7 (jn h33 (jn h34 (jn h8 (jn g (jn g5 (jn e1 (jn e1b (jn e2 (jn hg (jn e3 (jn e4 (jn e5 (jn e7 (jn hlen1 hset1))))))))))))))))) ?_
        refine ⟨m - (i + 1), by omega, i + 1, w ++ [(x.drop q).getD i 0 / 2 ^ s], ?_⟩
        rw [eapp, hy, Nat.zero_mod]
        (repeat' apply And.intro) <;> first | rfl | exact key | exact lim_snoc hlw e6 | (simp [hw]; done) | omega | assumption
    · have hi' : i = m := by omega
      have e8 : (x.drop q).length = m := by rw [hlX, hm]
      subst hi'
      refine xRF (jn h0 (jn h6 (jn h7 (jn h33 (jn h34 (jn h8 g)))))) ?_
      have e9 : (x.drop q).take i = x.drop q := List.take_of_length_le (Nat.le_of_eq e8)
      rw [e9, getD_ge (l := x.drop q) (Nat.le_of_eq e8), Nat.zero_mod, Nat.mul_zero, Nat.add_zero] at hinv
      refine ⟨w, ?_⟩
      have e0 : w ++ List.replicate (i - i) 0 = w := by simp
      rw [e0]
      have hv : val 18446744073709551616 w = val 18446744073709551616 (x.drop q) / 2 ^ s := (div_mod_of hinv (Nat.mod_lt _ (Nat.two_pow_pos s))).1.symm
      (repeat' apply And.intro) <;> first | rfl | omega | assumption | exact hv
  rintro ⟨ρ3, σ, c5⟩ ⟨w, hw, hlw, hvw, h8, hσ, hc5⟩
  dsimp only at h8 hσ hc5
  subst hσ
  refine v_freeze 8 (t := c2) (off := 0) (n := m) (cap := some m) (l := w) (ySF h8) yS (by omega) (by omega) ?_
  rw [List.drop_zero, show w.take m = w from List.take_of_length_le (by omega)]
  refine xR ?_
  refine s_call (told_spec (.id c2) w c5 hlw (by omega)) yM ?_
  rintro v c6 hc6 rfl
  rw [hvw, ← hvr]
  by_cases gb : bl (val 18446744073709551616 a / 2 ^ n) ≤ 67108864
  · rw [if_pos gb]
    refine xR ?_
    exact .inl ⟨gb, .id c2, rfl, .inr ⟨c2, rfl, by omega, by omega⟩⟩
  · rw [if_neg gb]
    refine xR ?_
    exact .inr ⟨by omega, rfl⟩
end Go.Proofs.YtplofcianjnkmaaGreatDoor
set_option linter.unusedVariables false
namespace Go.Proofs.YtplofcianjnkmaaGreatDoor
open Go.VM

structure Dy where
  neg : Bool
  m : Nat
  e : Int
def dy0 : Dy := ⟨false, 0, 0⟩
def dyOf (neg : Bool) (n : Nat) (e : Int) : Dy := if n = 0 then dy0 else ⟨neg, od n, e + (tz n : Int)⟩
structure Dy.Ok (d : Dy) : Prop where
  odd : d.m = 0 ∨ d.m % 2 = 1
  zero : d.m = 0 → d = dy0
theorem dyOf_ok (neg : Bool) (n : Nat) (e : Int) : (dyOf neg n e).Ok := by
  unfold dyOf
  split
  · exact ⟨.inl rfl, fun _ => rfl⟩
  · rename_i h
    exact ⟨.inr (tz_od h).2, fun h2 => absurd h2 (Nat.ne_of_gt (od_pos h))⟩
theorem dyOf_self {d : Dy} (h : d.Ok) (k : Int) : dyOf d.neg d.m (d.e + k) = if d.m = 0 then dy0 else ⟨d.neg, d.m, d.e + k⟩ := by
  unfold dyOf
  by_cases g : d.m = 0
  · rw [if_pos g, if_pos g]
  · rw [if_neg g, if_neg g]
    have h1 := h.odd.resolve_left g
    obtain ⟨h2, h3⟩ := tz_uniq (n := d.m) (k := 0) (m := d.m) (by simp) h1
    rw [h2, h3]
    simp
theorem od_le (n : Nat) : od n ≤ n := Nat.div_le_self _ _
theorem dyOf_le (neg : Bool) (n : Nat) (e : Int) : (dyOf neg n e).m ≤ n := by
  unfold dyOf
  split
  · exact Nat.zero_le _
  · exact od_le n
theorem tz_le_bl (n : Nat) : tz n ≤ bl n := by
  by_cases h : n = 0
  · rw [h, tz_zero]; exact Nat.zero_le _
  · exact Nat.le_of_lt (tz_lt h (lt_bl n))
def Dy.sg (d : Dy) : Int := if d.m = 0 then 0 else if d.neg = true then -1 else 1
def Dy.top (d : Dy) : Int := d.e + (bl d.m : Int) - 1
def cmpD (x y : Dy) : Int :=
  if x.sg < y.sg then -1 else if y.sg < x.sg then 1 else if x.sg = 0 then 0 else
  if x.top < y.top then - x.sg else if y.top < x.top then x.sg else
  x.sg * cmpI (x.m * 2 ^ (x.e - y.e).toNat) (y.m * 2 ^ (y.e - x.e).toNat)
theorem sg_cases (d : Dy) : (d.m = 0 ∧ d.sg = 0) ∨ (d.m ≠ 0 ∧ d.neg = true ∧ d.sg = -1) ∨ (d.m ≠ 0 ∧ d.neg = false ∧ d.sg = 1) := by
  unfold Dy.sg
  by_cases g : d.m = 0
  · exact .inl ⟨g, if_pos g⟩
  · rw [if_neg g]
    cases h : d.neg
    · exact .inr (.inr ⟨g, rfl, by simp⟩)
    · exact .inr (.inl ⟨g, rfl, by simp⟩)
theorem bl_shl {x k : Nat} (h : x ≠ 0) : bl (x * 2 ^ k) = bl x + k := by
  have h1 : 2 ^ (bl x - 1) ≤ x := by
    rcases Nat.lt_or_ge x (2 ^ (bl x - 1)) with g | g
    · have := bl_le g
      have := bl_pos (Nat.pos_of_ne_zero h)
      omega
    · exact g
  have h2 := lt_bl x
  have hp : 0 < 2 ^ k := Nat.two_pow_pos k
  have h3 := bl_pos (Nat.pos_of_ne_zero h)
  have e := bl_eq (n := x * 2 ^ k) (k := bl x + k - 1) (by
    rw [show bl x + k - 1 = (bl x - 1) + k by omega, Nat.pow_add]
    exact Nat.mul_le_mul_right _ h1) (by
    rw [show bl x + k - 1 + 1 = bl x + k by omega, Nat.pow_add]
    exact (Nat.mul_lt_mul_right hp).2 h2)
  omega
end Go.Proofs.YtplofcianjnkmaaGreatDoor
set_option linter.unusedVariables false
namespace Go.Proofs.YtplofcianjnkmaaGreatDoor
open Go.VM

theorem mag_lt {m n a b : Nat} (hn : n ≠ 0) (h : a + bl m < b + bl n) : m * 2 ^ a < n * 2 ^ b := by
  have h1 : m * 2 ^ a < 2 ^ bl m * 2 ^ a := (Nat.mul_lt_mul_right (Nat.two_pow_pos a)).2 (lt_bl m)
  have h2 : 2 ^ (bl n - 1) * 2 ^ b ≤ n * 2 ^ b := Nat.mul_le_mul_right _ (le_of_bl (Nat.pos_of_ne_zero hn))
  have h3 : 2 ^ bl m * 2 ^ a ≤ 2 ^ (bl n - 1) * 2 ^ b := by
    rw [← Nat.pow_add, ← Nat.pow_add]
    exact Nat.pow_le_pow_right (by decide) (by omega)
  omega
theorem mag_cut {m n a b : Nat} : m * 2 ^ a < n * 2 ^ b ↔ m * 2 ^ (a - b) < n * 2 ^ (b - a) := by
  rcases Nat.le_total a b with h | h
  · obtain ⟨k, rfl⟩ := Nat.exists_eq_add_of_le h
    rw [Nat.sub_eq_zero_of_le h, Nat.add_sub_cancel_left, Nat.pow_add, Nat.pow_zero, Nat.mul_one, Nat.mul_comm (2 ^ a), ← Nat.mul_assoc]
    exact Nat.mul_lt_mul_right (Nat.two_pow_pos a)
  · obtain ⟨k, rfl⟩ := Nat.exists_eq_add_of_le h
    rw [Nat.sub_eq_zero_of_le h, Nat.add_sub_cancel_left, Nat.pow_add, Nat.pow_zero, Nat.mul_one, Nat.mul_comm (2 ^ b), ← Nat.mul_assoc]
    exact Nat.mul_lt_mul_right (Nat.two_pow_pos b)
theorem cmpI_cases (a b : Nat) : (a < b ∧ cmpI a b = -1) ∨ (a = b ∧ cmpI a b = 0) ∨ (b < a ∧ cmpI a b = 1) := by
  unfold cmpI
  rcases Nat.lt_trichotomy a b with h | h | h
  · exact .inl ⟨h, if_pos h⟩
  · exact .inr (.inl ⟨h, by rw [if_neg (by omega), if_pos h]⟩)
  · exact .inr (.inr ⟨h, by rw [if_neg (by omega), if_neg (by omega)]⟩)
theorem mag_cmp (m n a b : Nat) : cmpI (m * 2 ^ (a - b)) (n * 2 ^ (b - a)) = cmpI (m * 2 ^ a) (n * 2 ^ b) := by
  have h1 := mag_cut (m := m) (n := n) (a := a) (b := b)
  have h2 := mag_cut (m := n) (n := m) (a := b) (b := a)
  rcases cmpI_cases (m * 2 ^ (a - b)) (n * 2 ^ (b - a)) with ⟨h, e⟩ | ⟨h, e⟩ | ⟨h, e⟩ <;> rw [e] <;>
    rcases cmpI_cases (m * 2 ^ a) (n * 2 ^ b) with ⟨h', e'⟩ | ⟨h', e'⟩ | ⟨h', e'⟩ <;> rw [e'] <;> first | rfl | (exfalso; omega)
def cmpM (x y : Dy) : Int := if x.top < y.top then -1 else if y.top < x.top then 1 else cmpI (x.m * 2 ^ (x.e - y.e).toNat) (y.m * 2 ^ (y.e - x.e).toNat)
theorem cmpM_eq {x y : Dy} {E : Int} (hx : x.m ≠ 0) (hy : y.m ≠ 0) (ex : E ≤ x.e) (ey : E ≤ y.e) : cmpM x y = cmpI (x.m * 2 ^ (x.e - E).toNat) (y.m * 2 ^ (y.e - E).toNat) := by
  unfold cmpM Dy.top
  have bx := bl_pos (Nat.pos_of_ne_zero hx)
  have by' := bl_pos (Nat.pos_of_ne_zero hy)
  split
  · rename_i h
    have := mag_lt (m := x.m) (a := (x.e - E).toNat) (b := (y.e - E).toNat) hy (by omega)
    unfold cmpI
    rw [if_pos this]
  · split
    · rename_i h
      have := mag_lt (m := y.m) (a := (y.e - E).toNat) (b := (x.e - E).toNat) hx (by omega)
      unfold cmpI
      rw [if_neg (by omega), if_neg (by omega)]
    · have e1 : (x.e - y.e).toNat = (x.e - E).toNat - (y.e - E).toNat := by omega
      have e2 : (y.e - x.e).toNat = (y.e - E).toNat - (x.e - E).toNat := by omega
      rw [e1, e2, mag_cmp]
theorem cmpD_eq (x y : Dy) : cmpD x y = if x.sg < y.sg then -1 else if y.sg < x.sg then 1 else if x.sg = 0 then 0 else x.sg * cmpM x y := by
  unfold cmpD cmpM
  repeat' split
  all_goals first | rfl | omega
def zv (E : Int) (d : Dy) : Int := d.sg * ((d.m * 2 ^ (d.e - E).toNat : Nat) : Int)
def sgn (z : Int) : Int := if z < 0 then -1 else if z = 0 then 0 else 1
theorem sgn_cases (z : Int) : (z < 0 ∧ sgn z = -1) ∨ (z = 0 ∧ sgn z = 0) ∨ (0 < z ∧ sgn z = 1) := by
  unfold sgn
  rcases Int.lt_trichotomy z 0 with h | h | h
  · exact .inl ⟨h, if_pos h⟩
  · exact .inr (.inl ⟨h, by rw [if_neg (by omega), if_pos h]⟩)
  · exact .inr (.inr ⟨h, by rw [if_neg (by omega), if_neg (by omega)]⟩)
theorem cmpD_zv {x y : Dy} {E : Int} (ex : E ≤ x.e) (ey : E ≤ y.e) : cmpD x y = sgn (zv E x - zv E y) := by
  have px : x.m ≠ 0 → 0 < x.m * 2 ^ (x.e - E).toNat := fun h => Nat.mul_pos (Nat.pos_of_ne_zero h) (Nat.two_pow_pos _)
  have py : y.m ≠ 0 → 0 < y.m * 2 ^ (y.e - E).toNat := fun h => Nat.mul_pos (Nat.pos_of_ne_zero h) (Nat.two_pow_pos _)
  rw [cmpD_eq]
  unfold zv
  have hm : x.m ≠ 0 → y.m ≠ 0 → _ := fun h1 h2 => cmpM_eq h1 h2 ex ey
  generalize hX : x.m * 2 ^ (x.e - E).toNat = X at *
  generalize hY : y.m * 2 ^ (y.e - E).toNat = Y at *
  rcases sg_cases x with ⟨h1, h2⟩ | ⟨h1, _, h2⟩ | ⟨h1, _, h2⟩ <;> rcases sg_cases y with ⟨g1, g2⟩ | ⟨g1, _, g2⟩ | ⟨g1, _, g2⟩ <;> rw [h2, g2]
  · simp [sgn]
  · have := py g1
    rcases sgn_cases (0 * (X : Int) - -1 * (Y : Int)) with ⟨a, b⟩ | ⟨a, b⟩ | ⟨a, b⟩ <;> rw [b] <;> first | rfl | (exfalso; omega)
  · have := py g1
    rcases sgn_cases (0 * (X : Int) - 1 * (Y : Int)) with ⟨a, b⟩ | ⟨a, b⟩ | ⟨a, b⟩ <;> rw [b] <;> first | rfl | (exfalso; omega)
  · have := px h1
    rcases sgn_cases (-1 * (X : Int) - 0 * (Y : Int)) with ⟨a, b⟩ | ⟨a, b⟩ | ⟨a, b⟩ <;> rw [b] <;> first | rfl | (exfalso; omega)
  · rw [hm h1 g1]
    rcases cmpI_cases X Y with ⟨p, q⟩ | ⟨p, q⟩ | ⟨p, q⟩ <;> rw [q] <;>
      rcases sgn_cases (-1 * (X : Int) - -1 * (Y : Int)) with ⟨a, b⟩ | ⟨a, b⟩ | ⟨a, b⟩ <;> rw [b] <;> first | rfl | (exfalso; omega)
  · have := px h1
    have := py g1
    rcases sgn_cases (-1 * (X : Int) - 1 * (Y : Int)) with ⟨a, b⟩ | ⟨a, b⟩ | ⟨a, b⟩ <;> rw [b] <;> first | rfl | (exfalso; omega)
  · have := px h1
    rcases sgn_cases (1 * (X : Int) - 0 * (Y : Int)) with ⟨a, b⟩ | ⟨a, b⟩ | ⟨a, b⟩ <;> rw [b] <;> first | rfl | (exfalso; omega)
  · have := px h1
    have := py g1
    rcases sgn_cases (1 * (X : Int) - -1 * (Y : Int)) with ⟨a, b⟩ | ⟨a, b⟩ | ⟨a, b⟩ <;> rw [b] <;> first | rfl | (exfalso; omega)
  · rw [hm h1 g1]
    rcases cmpI_cases X Y with ⟨p, q⟩ | ⟨p, q⟩ | ⟨p, q⟩ <;> rw [q] <;>
      rcases sgn_cases (1 * (X : Int) - 1 * (Y : Int)) with ⟨a, b⟩ | ⟨a, b⟩ | ⟨a, b⟩ <;> rw [b] <;> first | rfl | (exfalso; omega)
theorem cmpD_flip (x y : Dy) : cmpD y x = - cmpD x y := by
  obtain ⟨E, h1, h2⟩ : ∃ E : Int, E ≤ x.e ∧ E ≤ y.e := ⟨min x.e y.e, by omega, by omega⟩
  rw [cmpD_zv h1 h2, cmpD_zv h2 h1]
  rcases sgn_cases (zv E x - zv E y) with ⟨a, b⟩ | ⟨a, b⟩ | ⟨a, b⟩ <;> rw [b] <;>
    rcases sgn_cases (zv E y - zv E x) with ⟨p, q⟩ | ⟨p, q⟩ | ⟨p, q⟩ <;> rw [q] <;> first | rfl | (exfalso; omega)
def leD (x y : Dy) : Prop := cmpD x y ≤ 0
def minD (x y : Dy) : Dy := if cmpD x y ≤ 0 then x else y
def maxD (x y : Dy) : Dy := if 0 ≤ cmpD x y then x else y
end Go.Proofs.YtplofcianjnkmaaGreatDoor
set_option linter.unusedVariables false
set_option linter.unusedSimpArgs false
namespace Go.Proofs.YtplofcianjnkmaaGreatDoor
open Go.VM

theorem dyOf_id {d : Dy} (h : d.Ok) : dyOf d.neg d.m d.e = d := by
  have := dyOf_self h 0
  rw [Int.add_zero] at this
  rw [this]
  split
  · rename_i g; exact (h.zero g).symm
  · rfl
theorem sg_sign {d : Dy} (h : d.m ≠ 0) : d.sg = if d.neg = true then -1 else 1 := by unfold Dy.sg; rw [if_neg h]
def addW (an : Bool) (a : Nat) (bn : Bool) (b : Nat) : Bool × Nat := if an = bn then (an, a + b) else if a < b then (bn, b - a) else (an, a - b)
def mulD (x y : Dy) : Dy := dyOf (x.neg != y.neg) (x.m * y.m) (x.e + y.e)
theorem mulD_ok (x y : Dy) : (mulD x y).Ok := dyOf_ok _ _ _
def rD (x : Dy) (pos : Int) (up : Bool) : Dy := if x.m = 0 ∨ pos ≤ x.e then x else dyOf x.neg (x.m / 2 ^ (pos - x.e).toNat + (if up = x.neg then 0 else 1)) pos
def fitE (e : Int) : Prop := -1099511627776 ≤ e ∧ e ≤ 1099511627776
instance (e : Int) : Decidable (fitE e) := by unfold fitE; infer_instance
def tE (d : Dy) : Int := if 67108864 < bl d.m then 3 else if fitE d.e then 0 else 80
def worstE (e f : Int) : Int := if e = 3 ∨ f = 3 then 3 else if e ≠ 0 then e else f
theorem tE_cases (d : Dy) : (67108864 < bl d.m ∧ tE d = 3) ∨ (bl d.m ≤ 67108864 ∧ fitE d.e ∧ tE d = 0) ∨ (bl d.m ≤ 67108864 ∧ ¬ fitE d.e ∧ tE d = 80) := by
  unfold tE
  by_cases h : 67108864 < bl d.m
  · exact .inl ⟨h, if_pos h⟩
  · rw [if_neg h]
    by_cases g : fitE d.e
    · exact .inr (.inl ⟨by omega, g, if_pos g⟩)
    · exact .inr (.inr ⟨by omega, g, if_neg g⟩)
theorem dy0_ok : dy0.Ok := ⟨.inl rfl, fun _ => rfl⟩
end Go.Proofs.YtplofcianjnkmaaGreatDoor
set_option linter.unusedSimpArgs false
set_option linter.unusedVariables false
set_option maxRecDepth 100000
set_option maxHeartbeats 8000000
namespace Go.Proofs.YtplofcianjnkmaaGreatDoor
open Go.VM

abbrev whV (neg : Bool) (t : Tok) (l : List Nat) : V := .agg [bv neg, nats t l]
abbrev raV (neg : Bool) (t : Tok) (l : List Nat) (e : Int) : V := .agg [bv neg, nats t l, iv e]
abbrev dyV (t : Tok) (d : Dy) : V := raV d.neg t (digs 18446744073709551616 d.m) d.e
def sgW (neg : Bool) (n : Nat) : Int := if n = 0 then 0 else if neg = true then -1 else 1
theorem sgW_dy (d : Dy) : sgW d.neg d.m = d.sg := rfl

theorem within_spec (e : Int) (c : Nat) : VSpec Tryz.prog F.dyadic_within c [iv e] (fun r _ => r = bv (decide (fitE e))) := by
  refine spec_mk hm E.dyadic_within B.dyadic_within K.dyadic_within Q.dyadic_within (by rw [N.dyadic_within]; simp) ?_
  unfold C.dyadic_within R.dyadic_within
  by_cases g1 : -1099511627776 ≤ e
  · by_cases g2 : e ≤ 1099511627776
    · have g : fitE e := ⟨g1, g2⟩
      refine xRF (jn g1 (jn g2 g)) ?_
      omega
    · have g : ¬ fitE e := fun h => g2 h.2
      refine xRF (jn g1 (jn g2 g)) ?_
      omega
  · have g : ¬ fitE e := fun h => g1 h.1
    refine xRF (jn g1 g) ?_
    omega

theorem sign_spec (neg : Bool) (t : Tok) (l : List Nat) (c : Nat) (hl : Lim 18446744073709551616 l) (hn : l.length ≤ 4398046511104) : VSpec Tryz.prog F.whole_Sign c [whV neg t l] (fun r _ => r = iv (sgW neg (val 18446744073709551616 l))) := by
  refine spec_mk hm E.whole_Sign B.whole_Sign K.whole_Sign Q.whole_Sign (by rw [N.whole_Sign]; simp) ?_
  unfold C.whole_Sign R.whole_Sign
  refine zR ?_
  refine s_call (length_spec t l (c + 1) hl hn) wS ?_
  rintro v c1 hc1 rfl
  by_cases g : val 18446744073709551616 l = 0
  · have e : (bl (val 18446744073709551616 l) : Int) = 0 := by rw [g]; rfl
    refine zRF e ?_
    unfold sgW; rw [if_pos g]
  · have e : ¬ (bl (val 18446744073709551616 l) : Int) = 0 := by have := bl_pos (Nat.pos_of_ne_zero g); omega
    cases neg
    · refine zRF e ?_
      unfold sgW; rw [if_neg g]; rfl
    · refine zRF e ?_
      unfold sgW; rw [if_neg g]; rfl

theorem psign_spec (neg : Bool) (t : Tok) (l : List Nat) (c : Nat) (hl : Lim 18446744073709551616 l) (hn : l.length ≤ 4398046511104) : VSpec Tryz.prog F.dyadic_part_sign c [whV neg t l] (fun r _ => r = iv (sgW neg (val 18446744073709551616 l))) := by
  refine spec_mk hm E.dyadic_part_sign B.dyadic_part_sign K.dyadic_part_sign Q.dyadic_part_sign (by rw [N.dyadic_part_sign]; simp) ?_
  unfold C.dyadic_part_sign R.dyadic_part_sign
  refine zR ?_
  refine s_call (sign_spec neg t l (c + 1) hl hn) wS ?_
  rintro v c1 hc1 rfl
  refine zR ?_
  (first | omega | rfl | ((repeat' apply And.intro) <;> first | rfl | omega | assumption))
theorem plen_spec (neg : Bool) (t : Tok) (l : List Nat) (c : Nat) (hl : Lim 18446744073709551616 l) (hn : l.length ≤ 4398046511104) : VSpec Tryz.prog F.dyadic_part_length c [whV neg t l] (fun r _ => r = iv (bl (val 18446744073709551616 l))) := by
  refine spec_mk hm E.dyadic_part_length B.dyadic_part_length K.dyadic_part_length Q.dyadic_part_length (by rw [N.dyadic_part_length]; simp) ?_
  unfold C.dyadic_part_length R.dyadic_part_length
  refine zR ?_
  refine s_call (length_spec t l (c + 1) hl hn) wS ?_
  rintro v c1 hc1 rfl
  refine zR ?_
  (first | omega | rfl | ((repeat' apply And.intro) <;> first | rfl | omega | assumption))

theorem shifted_spec (t : Tok) (l : List Nat) (k c : Nat) (hl : Lim 18446744073709551616 l) (hn : l.length ≤ 17179869184) (hk : k ≤ 1099511627776) (hb : bl (val 18446744073709551616 l / 2 ^ k) ≤ 67108864) : VSpec Tryz.prog F.dyadic_shifted c [nats t l, iv (k : Int)] (fun r c' => NatR c c' (val 18446744073709551616 l / 2 ^ k) r) := by
  refine spec_mk hm E.dyadic_shifted B.dyadic_shifted K.dyadic_shifted Q.dyadic_shifted (by rw [N.dyadic_shifted]; simp) ?_
  unfold C.dyadic_shifted R.dyadic_shifted
  refine zR ?_
  refine s_call (right_spec t l k c hl (by omega) hk) wS ?_
  rintro v c1 hc1 (⟨_, tk, rfl, htk⟩ | ⟨h, _⟩)
  · refine zR ?_
    exact ⟨tk, rfl, htk⟩
  · omega
theorem left_fast (t : Tok) (l : List Nat) (k c : Nat) (hl : Lim 18446744073709551616 l) (hn : l.length ≤ 17179869184) (hk : k ≤ 1099511627776) (hb : bl (val 18446744073709551616 l * 2 ^ k) ≤ 67108864) : VSpec Tryz.prog F.dyadic_left c [nats t l, iv (k : Int)] (fun r c' => NatR c c' (val 18446744073709551616 l * 2 ^ k) r) := by
  refine spec_mk hm E.dyadic_left B.dyadic_left K.dyadic_left Q.dyadic_left (by rw [N.dyadic_left]; simp) ?_
  unfold C.dyadic_left R.dyadic_left
  refine zR ?_
  refine s_call (left_spec t l k c hl (by omega) (by omega)) wS ?_
  rintro v c1 hc1 (⟨_, tk, rfl, htk⟩ | ⟨h, _⟩)
  · refine zR ?_
    exact ⟨tk, rfl, htk⟩
  · omega

theorem odd_spec (neg : Bool) (t : Tok) (l : List Nat) (e : Int) (c : Nat) (hl : Lim 18446744073709551616 l) (hn : l.length ≤ 17179869184) (he1 : -4611686018427387904 ≤ e) (he2 : e ≤ 4611686018427387904) (hb : tz (val 18446744073709551616 l) = 0 ∨ bl (od (val 18446744073709551616 l)) ≤ 67108864) :
    VSpec Tryz.prog F.dyadic_odd c [whV neg t l, iv e] (fun r c' => ∃ tk, r = dyV tk (dyOf neg (val 18446744073709551616 l) e) ∧ Tk c c' tk) := by
  refine spec_mk hm E.dyadic_odd B.dyadic_odd K.dyadic_odd Q.dyadic_odd (by rw [N.dyadic_odd]; simp) ?_
  unfold C.dyadic_odd R.dyadic_odd
  refine zR ?_
  refine s_call (sign_spec neg t l (c + 2) hl (by omega)) wS ?_
  rintro v c1 hc1 rfl
  by_cases g : val 18446744073709551616 l = 0
  · have e0 : sgW neg (val 18446744073709551616 l) = 0 := by unfold sgW; rw [if_pos g]
    refine zRF e0 ?_
    refine ⟨.nil, ?_, .inl rfl⟩
    rw [g]
    rfl
  · have e0 : ¬ sgW neg (val 18446744073709551616 l) = 0 := by unfold sgW; rw [if_neg g]; split <;> decide
    have hlen := digs_len_le two64 hl
    have hld := lim_digs two64 (val 18446744073709551616 l)
    have vd := val_digs two64 (val 18446744073709551616 l)
    have htz : tz (val 18446744073709551616 l) ≤ 64 * l.length := by
      have h1 := val_lt hl
      rw [pow64] at h1
      have := tz_lt g h1
      omega
    refine zRF e0 ?_
    refine s_call (norm_spec t l c1 hl (by omega)) wS ?_
    rintro v c2 hc2 ⟨tk, rfl, htk⟩
    refine zR ?_
    refine s_call (tail_spec tk (digs 18446744073709551616 (val 18446744073709551616 l)) c2 hld (by omega)) wS ?_
    rintro v c3 hc3 rfl
    rw [vd]
    have ed : dyOf neg (val 18446744073709551616 l) e = ⟨neg, od (val 18446744073709551616 l), e + (tz (val 18446744073709551616 l) : Int)⟩ := by unfold dyOf; rw [if_neg g]
    by_cases g2 : (0 : Int) < (tz (val 18446744073709551616 l) : Nat)
    · refine zRF (jn e0 g2) ?_
      refine s_call (shifted_spec tk (digs 18446744073709551616 (val 18446744073709551616 l)) (tz (val 18446744073709551616 l)) c3 hld (by omega) (by omega) (by rw [vd]; exact hb.resolve_left (by omega))) wS ?_
      rintro v c4 hc4 ⟨tk2, rfl, htk2⟩
      rw [vd]
      refine zR ?_
      exact ⟨tk2, by rw [ed]; rfl, htk2.mono (by omega) (by omega)⟩
    · have e1 : tz (val 18446744073709551616 l) = 0 := by omega
      refine zRF (jn e0 g2) ?_
      refine ⟨tk, ?_, htk.mono (by omega) (by omega)⟩
      rw [ed, e1]
      unfold od
      rw [e1, Nat.pow_zero, Nat.div_one]
end Go.Proofs.YtplofcianjnkmaaGreatDoor
set_option linter.unusedVariables false
set_option linter.unusedSimpArgs false
namespace Go.VM
open Go.RowKit

def VoidR (r : V) : Prop := ∀ w M μ c v, ¬ Rep w M μ c r v
theorem voidR_nil {n : Nat} {l : List V} (hl : l ≠ []) : VoidR (.sl .nil n l) := by
  intro w M μ c v h
  cases h with
  | nil tk sz => exact hl rfl
  | sl _ _ m cap a _ vs ht hn hc hs hMb hcap h1 h2 =>
    have h0 : cap * n = 0 := ht
    have hc0 : cap = 0 := (Nat.mul_eq_zero.1 h0).resolve_right (by omega)
    subst hc0
    have hm0 : m = 0 := by omega
    have : l.length = 0 := by rw [hn, hm0, Nat.zero_mul]
    exact hl (List.eq_nil_of_length_eq_zero this)
theorem voidR_agg {l : List V} {x : V} (hm : x ∈ l) (hx : VoidR x) : VoidR (.agg l) := by
  intro w M μ c v h
  cases h with
  | agg _ cs hn h1 hl =>
    obtain ⟨j, hj⟩ := List.getElem?_of_mem hm
    have hjl := (List.getElem?_eq_some_iff.1 hj).1
    exact hx _ _ _ _ _ (hl j _ _ hj (Array.getElem?_eq_getElem (by omega)))
theorem VSpec.cleanR {P : Program} {f : FuncId} {c : Nat} {xs : List V} {Q1 Q2 : V → Nat → Prop} (h : VSpec P f c xs Q1) (hq : ∀ r c', c ≤ c' → Q1 r c' → Q2 r c' ∨ (r.one = true ∧ VoidR r ∧ ∃ r2 c2, c ≤ c2 ∧ Q2 r2 c2)) : VSpec P f c xs Q2 := by
  obtain ⟨r, c', h0, h1, h2⟩ := h
  rcases hq r c' h0 h2 with h | ⟨ho, hv, r2, c2, h3, h4⟩
  · exact ⟨r, c', h0, h1, h⟩
  · refine ⟨r2, c2, h3, fun w Φ μ vs hm0 hn ha => (h1 w Φ μ vs hm0 hn ha).mono ?_, h4⟩
    rintro e w' ⟨v, μ', _, _, hr⟩
    exact absurd (hr.one ho) (hv _ _ _ _ _)
theorem nb_app {t : Nat} : noBlk t = none := rfl
def Own1 (lo hi : Nat) (t : Tok) (l : List Nat) : Prop := (t = .nil ∧ l = []) ∨ ∃ i, t = .id i ∧ lo ≤ i ∧ i < hi
theorem Own1.mono {a b c d : Nat} {t : Tok} {l : List Nat} (h : Own1 a b t l) (h1 : c ≤ a) (h2 : b ≤ d) : Own1 c d t l := by
  rcases h with h | ⟨i, h, h3, h4⟩
  · exact .inl h
  · exact .inr ⟨i, h, by omega, by omega⟩
end Go.VM
set_option linter.unusedSimpArgs false
set_option linter.unusedVariables false
set_option maxRecDepth 100000
set_option maxHeartbeats 8000000
namespace Go.Proofs.YtplofcianjnkmaaGreatDoor
open Go.VM

theorem odd_own (neg : Bool) (t : Tok) (l : List Nat) (e : Int) (c : Nat) (hl : Lim 18446744073709551616 l) (hn : l.length ≤ 17179869184) (he1 : -4611686018427387904 ≤ e) (he2 : e ≤ 4611686018427387904) (hb : tz (val 18446744073709551616 l) = 0 ∨ bl (od (val 18446744073709551616 l)) ≤ 67108864) :
    VSpec Tryz.prog F.dyadic_odd c [whV neg t l, iv e] (fun r c' => ∃ tk, r = dyV tk (dyOf neg (val 18446744073709551616 l) e) ∧ Own1 c c' tk (digs 18446744073709551616 (dyOf neg (val 18446744073709551616 l) e).m)) := by
  refine VSpec.cleanR (odd_spec neg t l e c hl hn he1 he2 hb) fun r c' hc ⟨tk, hr, htk⟩ => ?_
  subst hr
  rcases htk with rfl | ⟨i, rfl, h1, h2⟩
  · by_cases g : digs 18446744073709551616 (dyOf neg (val 18446744073709551616 l) e).m = []
    · exact .inl ⟨_, rfl, .inl ⟨rfl, g⟩⟩
    · exact .inr ⟨rfl, voidR_agg (x := nats .nil (digs 18446744073709551616 (dyOf neg (val 18446744073709551616 l) e).m)) (by simp) (voidR_nil (by simpa using g)), _, c + 1, by omega, .id c, rfl, .inr ⟨c, rfl, by omega, by omega⟩⟩
  · exact .inl ⟨_, rfl, .inr ⟨i, rfl, h1, h2⟩⟩

def ansD (d : Dy) : Dy := if tE d = 0 then d else dy0
theorem ansD_ok {d : Dy} (h : tE d = 0) : ansD d = d := if_pos h
theorem ansD_bad {d : Dy} (h : tE d ≠ 0) : ansD d = dy0 := if_neg h
def AnsD (c c' : Nat) (d : Dy) (r : V) : Prop := ∃ t, r = .tup [dyV t (ansD d), iv (tE d)] ∧ Own1 c c' t (digs 18446744073709551616 (ansD d).m)
theorem AnsD.mono {a b c d : Nat} {x : Dy} {r : V} (h : AnsD a b x r) (h1 : c ≤ a) (h2 : b ≤ d) : AnsD c d x r := by
  obtain ⟨t, h, ht⟩ := h
  exact ⟨t, h, ht.mono h1 h2⟩
theorem tz_len {l : List Nat} (hl : Lim 18446744073709551616 l) : tz (val 18446744073709551616 l) ≤ 64 * l.length := by
  by_cases g : val 18446744073709551616 l = 0
  · rw [g, tz_zero]; exact Nat.zero_le _
  · have h1 := val_lt hl
    rw [pow64] at h1
    exact Nat.le_of_lt (tz_lt g h1)
theorem dyOf_e {neg : Bool} {n : Nat} {e : Int} : (dyOf neg n e).e = if n = 0 then 0 else e + (tz n : Int) := by
  unfold dyOf; split <;> rfl
theorem dlen {d : Nat} {l : List Nat} (hl : Lim 18446744073709551616 l) (h : d ≤ val 18446744073709551616 l) : (digs 18446744073709551616 d).length ≤ l.length := Nat.le_trans (le_len two64 h) (digs_len_le two64 hl)

theorem dtold_spec (neg : Bool) (t : Tok) (l : List Nat) (e : Int) (c : Nat) (hl : Lim 18446744073709551616 l) (hn : l.length ≤ 17179869184) (he1 : -2305843009213693952 ≤ e) (he2 : e ≤ 2305843009213693952) (hb : tz (val 18446744073709551616 l) = 0 ∨ bl (od (val 18446744073709551616 l)) ≤ 67108864) :
    VSpec Tryz.prog F.dyadic_told c [whV neg t l, iv e] (fun r c' => AnsD c c' (dyOf neg (val 18446744073709551616 l) e) r) := by
  refine spec_mk hm E.dyadic_told B.dyadic_told K.dyadic_told Q.dyadic_told (by rw [N.dyadic_told]; simp) ?_
  unfold C.dyadic_told R.dyadic_told
  refine zR ?_
  refine s_call (odd_own neg t l e (c + 2) hl (by omega) (by omega) (by omega) hb) wS ?_
  rintro v c1 hc1 ⟨tk, rfl, htk⟩
  have hm := dyOf_le neg (val 18446744073709551616 l) e
  have hdl := dlen hl hm
  have hee := dyOf_e (neg := neg) (n := val 18446744073709551616 l) (e := e)
  have htz := tz_len hl
  have hok := dyOf_ok neg (val 18446744073709551616 l) e
  generalize dyOf neg (val 18446744073709551616 l) e = d at *
  have hld := lim_digs two64 d.m
  have vd := val_digs two64 d.m
  refine zR ?_
  refine s_call (psign_spec d.neg tk (digs 18446744073709551616 d.m) (c1 + 1) hld (by omega)) wS ?_
  rintro v c2 hc2 rfl
  rw [vd]
  by_cases g : d.m = 0
  · have e0 : sgW d.neg d.m = 0 := by unfold sgW; rw [if_pos g]
    refine zRF e0 ?_
    rw [hok.zero g]
    exact ⟨.nil, rfl, .inl ⟨rfl, rfl⟩⟩
  · have e0 : ¬ sgW d.neg d.m = 0 := by unfold sgW; rw [if_neg g]; split <;> decide
    refine zRF e0 ?_
    refine s_call (plen_spec d.neg tk (digs 18446744073709551616 d.m) c2 hld (by omega)) wS ?_
    rintro v c3 hc3 rfl
    rw [vd]
    rcases tE_cases d with ⟨h1, h2⟩ | ⟨h1, h2, h3⟩ | ⟨h1, h2, h3⟩
    · have g1 : (67108864 : Int) < (bl d.m : Int) := by omega
      refine zRF (jn e0 g1) ?_
      refine ⟨.nil, ?_, .inl ⟨rfl, ?_⟩⟩
      · rw [ansD_bad (by rw [h2]; decide), h2]; rfl
      · rw [ansD_bad (by rw [h2]; decide)]; rfl
    · have g1 : ¬ (67108864 : Int) < (bl d.m : Int) := by omega
      refine zRF (jn e0 g1) ?_
      refine s_call (within_spec d.e c3) wS ?_
      rintro v c4 hc4 rfl
      refine zRF (jn e0 (jn g1 h2)) ?_
      refine ⟨tk, ?_, ?_⟩
      · rw [ansD_ok h3, h3]
      · rw [ansD_ok h3]; exact htk.mono (by omega) (by omega)
    · have g1 : ¬ (67108864 : Int) < (bl d.m : Int) := by omega
      refine zRF (jn e0 g1) ?_
      refine s_call (within_spec d.e c3) wS ?_
      rintro v c4 hc4 rfl
      refine zRF (jn e0 (jn g1 h2)) ?_
      refine ⟨.nil, ?_, .inl ⟨rfl, ?_⟩⟩
      · rw [ansD_bad (by rw [h3]; decide), h3]; rfl
      · rw [ansD_bad (by rw [h3]; decide)]; rfl
end Go.Proofs.YtplofcianjnkmaaGreatDoor
set_option linter.unusedSimpArgs false
set_option linter.unusedVariables false
set_option maxRecDepth 100000
set_option maxHeartbeats 8000000
namespace Go.Proofs.YtplofcianjnkmaaGreatDoor
open Go.VM

theorem n_neg' {x : Int} (h1 : -9223372036854775807 ≤ x) (h2 : x ≤ 9223372036854775807) : vun .neg (iv x) = some (iv (-x)) := by
  rw [n_neg, wrap_i64 (by omega) (by omega), Int.zero_sub]

structure Arg (l : List Nat) : Prop where
  lim : Lim 18446744073709551616 l
  len : l.length ≤ 1048576
theorem Arg.bl {l : List Nat} (h : Arg l) : Go.VM.bl (val 18446744073709551616 l) ≤ 67108864 := by
  have h1 := val_lt h.lim
  rw [pow64] at h1
  have := bl_le h1
  have := h.len
  omega
theorem arg_digs {n : Nat} (h : bl n ≤ 67108864) : Arg (digs 18446744073709551616 n) := ⟨lim_digs two64 n, digs_len_bl (by omega)⟩
theorem bl_od (n : Nat) : bl (od n) ≤ bl n := bl_mono (od_le n)
theorem dyOf_bl {neg : Bool} {n : Nat} {e : Int} : bl (dyOf neg n e).m ≤ bl n := bl_mono (dyOf_le neg n e)
theorem Arg.tz {l : List Nat} (h : Arg l) : Go.VM.tz (val 18446744073709551616 l) ≤ 67108864 := Nat.le_trans (tz_len h.lim) (by have := h.len; omega)

theorem read_spec (neg : Bool) (t : Tok) (l : List Nat) (e : Int) (c : Nat) (hl : Arg l) (he : fitE e) :
    VSpec Tryz.prog F.dyadic_read c [raV neg t l e] (fun r c' => ∃ tk, r = .tup [dyV tk (dyOf neg (val 18446744073709551616 l) e), iv 0] ∧ Own1 c c' tk (digs 18446744073709551616 (dyOf neg (val 18446744073709551616 l) e).m)) := by
  refine spec_mk hm E.dyadic_read B.dyadic_read K.dyadic_read Q.dyadic_read (by rw [N.dyadic_read]; simp) ?_
  unfold C.dyadic_read R.dyadic_read
  have hlen := hl.len
  have hb := hl.bl
  have hob := bl_od (val 18446744073709551616 l)
  have he' := he
  unfold fitE at he'
  refine zR ?_
  refine s_call (within_spec e (c + 2)) wS ?_
  rintro v c1 hc1 rfl
  refine zRF he ?_
  refine s_call (odd_own neg t l e c1 hl.lim (by omega) (by omega) (by omega) (.inr (by omega))) wS ?_
  rintro v c2 hc2 ⟨tk, rfl, htk⟩
  refine zR ?_
  exact ⟨tk, rfl, htk.mono (by omega) (by omega)⟩
theorem read_bad (neg : Bool) (t : Tok) (l : List Nat) (e : Int) (c : Nat) (he : ¬ fitE e) :
    VSpec Tryz.prog F.dyadic_read c [raV neg t l e] (fun r _ => r = .tup [dyV .nil dy0, iv 80]) := by
  refine spec_mk hm E.dyadic_read B.dyadic_read K.dyadic_read Q.dyadic_read (by rw [N.dyadic_read]; simp) ?_
  unfold C.dyadic_read R.dyadic_read
  refine zR ?_
  refine s_call (within_spec e (c + 2)) wS ?_
  rintro v c1 hc1 rfl
  refine zRF he ?_
  (first | omega | rfl | ((repeat' apply And.intro) <;> first | rfl | omega | assumption))

theorem two_spec (na nb : Bool) (ta tb : Tok) (a b : List Nat) (ea eb : Int) (c : Nat) (ha : Arg a) (hb : Arg b) (hea : fitE ea) (heb : fitE eb) :
    VSpec Tryz.prog F.dyadic_two c [raV na ta a ea, raV nb tb b eb] (fun r c' => ∃ tx ty cm, c ≤ cm ∧ cm ≤ c' ∧ r = .tup [dyV tx (dyOf na (val 18446744073709551616 a) ea), dyV ty (dyOf nb (val 18446744073709551616 b) eb), iv 0] ∧ Own1 c cm tx (digs 18446744073709551616 (dyOf na (val 18446744073709551616 a) ea).m) ∧ Own1 cm c' ty (digs 18446744073709551616 (dyOf nb (val 18446744073709551616 b) eb).m)) := by
  refine spec_mk hm E.dyadic_two B.dyadic_two K.dyadic_two Q.dyadic_two (by rw [N.dyadic_two]; simp) ?_
  unfold C.dyadic_two R.dyadic_two
  refine zR ?_
  refine s_call (read_spec na ta a ea (c + 4) ha hea) wS ?_
  rintro v c1 hc1 ⟨tx, rfl, htx⟩
  refine zR ?_
  refine s_call (read_spec nb tb b eb (c1 + 1) hb heb) wS ?_
  rintro v c2 hc2 ⟨ty, rfl, hty⟩
  refine zR ?_
  exact ⟨tx, ty, c1, by omega, by omega, rfl, htx.mono (by omega) (by omega), hty.mono (by omega) (by omega)⟩
theorem two_bad (na nb : Bool) (ta tb : Tok) (a b : List Nat) (ea eb : Int) (c : Nat) (ha : Arg a) (h : ¬ fitE ea ∨ ¬ fitE eb) :
    VSpec Tryz.prog F.dyadic_two c [raV na ta a ea, raV nb tb b eb] (fun r _ => ∃ x y, r = .tup [x, y, iv 80] ∧ (∃ n t l e, x = raV n t l e) ∧ (∃ n t l e, y = raV n t l e)) := by
  refine spec_mk hm E.dyadic_two B.dyadic_two K.dyadic_two Q.dyadic_two (by rw [N.dyadic_two]; simp) ?_
  unfold C.dyadic_two R.dyadic_two
  by_cases hea : fitE ea
  · have heb := h.resolve_left (fun q => q hea)
    refine zR ?_
    refine s_call (read_spec na ta a ea (c + 4) ha hea) wS ?_
    rintro v c1 hc1 ⟨tx, rfl, htx⟩
    refine zR ?_
    refine s_call (read_bad nb tb b eb (c1 + 1) heb) wS ?_
    rintro v c2 hc2 rfl
    refine zR ?_
    exact ⟨_, _, rfl, ⟨_, _, _, _, rfl⟩, ⟨_, _, _, _, rfl⟩⟩
  · refine zR ?_
    refine s_call (read_bad na ta a ea (c + 4) hea) wS ?_
    rintro v c1 hc1 rfl
    refine zR ?_
    exact ⟨_, _, rfl, ⟨_, _, _, _, rfl⟩, ⟨_, _, _, _, rfl⟩⟩

structure Num (d : Dy) : Prop where
  ok : d.Ok
  bits : bl d.m ≤ 67108864
  lo : -2199023255552 ≤ d.e
  hi : d.e ≤ 2199023255552
theorem Num.arg {d : Dy} (h : Num d) : Arg (digs 18446744073709551616 d.m) := arg_digs h.bits
theorem num_of {neg : Bool} {l : List Nat} {e : Int} (hl : Arg l) (he : fitE e) : Num (dyOf neg (val 18446744073709551616 l) e) := by
  have h1 := dyOf_e (neg := neg) (n := val 18446744073709551616 l) (e := e)
  have h2 := hl.tz
  unfold fitE at he
  refine ⟨dyOf_ok _ _ _, Nat.le_trans dyOf_bl hl.bl, ?_, ?_⟩ <;> (rw [h1]; split <;> omega)

theorem top_spec (t : Tok) (x : Dy) (c : Nat) (hx : Num x) : VSpec Tryz.prog F.dyadic_number_top c [dyV t x] (fun r _ => r = iv x.top) := by
  refine spec_mk hm E.dyadic_number_top B.dyadic_number_top K.dyadic_number_top Q.dyadic_number_top (by rw [N.dyadic_number_top]; simp) ?_
  unfold C.dyadic_number_top R.dyadic_number_top
  have h1 := hx.lo
  have h2 := hx.hi
  have h3 := hx.bits
  have ha := hx.arg
  have hlen := ha.len
  refine zR ?_
  refine s_call (plen_spec x.neg t (digs 18446744073709551616 x.m) (c + 1) ha.lim (by omega)) wS ?_
  rintro v c1 hc1 rfl
  rw [val_digs two64]
  refine zR ?_
  (first | omega | rfl | ((repeat' apply And.intro) <;> first | rfl | omega | assumption))

theorem compare_spec' (tx ty : Tok) (x y : Dy) (c : Nat) (hx : Num x) (hy : Num y) : VSpec Tryz.prog F.dyadic_compare c [dyV tx x, dyV ty y] (fun r _ => r = iv (cmpD x y)) := by
  refine spec_mk hm E.dyadic_compare B.dyadic_compare K.dyadic_compare Q.dyadic_compare (by rw [N.dyadic_compare]; simp) ?_
  unfold C.dyadic_compare R.dyadic_compare
  have hxa := hx.arg
  have hya := hy.arg
  have hxl := hxa.len
  have hyl := hya.len
  have x1 := hx.lo
  have x2 := hx.hi
  have y1 := hy.lo
  have y2 := hy.hi
  refine zR ?_
  refine s_call (psign_spec x.neg tx (digs 18446744073709551616 x.m) (c + 2) hxa.lim (by omega)) wS ?_
  rintro v c1 hc1 rfl
  refine zR ?_
  refine s_call (psign_spec y.neg ty (digs 18446744073709551616 y.m) c1 hya.lim (by omega)) wS ?_
  rintro v c2 hc2 rfl
  rw [val_digs two64, val_digs two64, sgW_dy, sgW_dy]
  by_cases g1 : x.sg < y.sg
  · have ec : cmpD x y = -1 := by unfold cmpD; rw [if_pos g1]
    refine zRF g1 ?_
    rw [ec]
  by_cases g2 : y.sg < x.sg
  · have ec : cmpD x y = 1 := by unfold cmpD; rw [if_neg g1, if_pos g2]
    refine zRF (jn g1 g2) ?_
    rw [ec]
  by_cases g3 : x.sg = 0
  · have ec : cmpD x y = 0 := by unfold cmpD; rw [if_neg g1, if_neg g2, if_pos g3]
    rw [g3] at g1 g2
    refine zRF (jn g1 (jn g2 g3)) ?_
    rw [ec]
  have ec : cmpD x y = if x.top < y.top then -x.sg else if y.top < x.top then x.sg else x.sg * cmpI (x.m * 2 ^ (x.e - y.e).toNat) (y.m * 2 ^ (y.e - x.e).toNat) := by
    unfold cmpD; rw [if_neg g1, if_neg g2, if_neg g3]
  have hs : x.sg = 1 ∨ x.sg = -1 := by rcases sg_cases x with ⟨_, h⟩ | ⟨_, _, h⟩ | ⟨_, _, h⟩ <;> omega
  have hxm : x.m ≠ 0 := fun e => g3 (by unfold Dy.sg; rw [if_pos e])
  have hym : y.m ≠ 0 := fun e => by
    have : y.sg = 0 := by unfold Dy.sg; rw [if_pos e]
    omega
  have bx := bl_pos (Nat.pos_of_ne_zero hxm)
  have by' := bl_pos (Nat.pos_of_ne_zero hym)
  have bx2 := hx.bits
  have by2 := hy.bits
  generalize cmpD x y = R at *
  generalize x.sg = s at *
  refine zRF (jn g1 (jn g2 g3)) ?_
  refine s_call (top_spec tx x c2 hx) wS ?_
  rintro v c3 hc3 rfl
  refine zR ?_
  refine s_call (top_spec ty y c3 hy) wS ?_
  rintro v c4 hc4 rfl
  by_cases g4 : x.top = y.top
  · have e4 : x.e + (bl x.m : Int) = y.e + (bl y.m : Int) := by unfold Dy.top at g4; omega
    rw [if_neg (by omega), if_neg (by omega)] at ec
    by_cases g5 : y.e < x.e
    · obtain ⟨k, hk⟩ : ∃ k : Nat, x.e - y.e = (k : Int) := ⟨(x.e - y.e).toNat, by omega⟩
      rw [show (x.e - y.e).toNat = k by omega, show (y.e - x.e).toNat = 0 by omega, Nat.pow_zero, Nat.mul_one] at ec
      refine zRF (jn g4 (jn g5 hk)) ?_
      refine s_call (left_fast tx (digs 18446744073709551616 x.m) k c4 hxa.lim (by omega) (by omega) (by rw [val_digs two64, bl_shl hxm]; omega)) wS ?_
      rintro v c5 hc5 ⟨t5, rfl, _⟩
      rw [val_digs two64]
      have hlb := digs_len_bl (m := x.m * 2 ^ k) (k := 1048576) (by rw [bl_shl hxm]; omega)
      refine zR ?_
      refine s_call (compare_spec t5 ty (digs 18446744073709551616 (x.m * 2 ^ k)) (digs 18446744073709551616 y.m) c5 (lim_digs two64 _) hya.lim (by omega) (by omega)) wS ?_
      rintro v c6 hc6 rfl
      rw [val_digs two64, val_digs two64]
      have hm3 := cmpI_cases (x.m * 2 ^ k) y.m
      generalize cmpI (x.m * 2 ^ k) y.m = q at *
      have hsq : -1 ≤ s * q ∧ s * q ≤ 1 := by
        rcases hs with rfl | rfl <;> omega
      refine zR ?_
      rw [ec]
    · obtain ⟨k, hk⟩ : ∃ k : Nat, y.e - x.e = (k : Int) := ⟨(y.e - x.e).toNat, by omega⟩
      rw [show (x.e - y.e).toNat = 0 by omega, show (y.e - x.e).toNat = k by omega, Nat.pow_zero, Nat.mul_one] at ec
      refine zRF (jn g4 (jn g5 hk)) ?_
      refine s_call (left_fast ty (digs 18446744073709551616 y.m) k c4 hya.lim (by omega) (by omega) (by rw [val_digs two64, bl_shl hym]; omega)) wS ?_
      rintro v c5 hc5 ⟨t5, rfl, _⟩
      rw [val_digs two64]
      have hlb := digs_len_bl (m := y.m * 2 ^ k) (k := 1048576) (by rw [bl_shl hym]; omega)
      refine zR ?_
      refine s_call (compare_spec tx t5 (digs 18446744073709551616 x.m) (digs 18446744073709551616 (y.m * 2 ^ k)) c5 hxa.lim (lim_digs two64 _) (by omega) (by omega)) wS ?_
      rintro v c6 hc6 rfl
      rw [val_digs two64, val_digs two64]
      have hm3 := cmpI_cases x.m (y.m * 2 ^ k)
      generalize cmpI x.m (y.m * 2 ^ k) = q at *
      have hsq : -1 ≤ s * q ∧ s * q ≤ 1 := by
        rcases hs with rfl | rfl <;> omega
      refine zR ?_
      rw [ec]
  · refine zRF g4 ?_
    refine s_call (top_spec tx x c4 hx) wS ?_
    rintro v c5 hc5 rfl
    refine zR ?_
    refine s_call (top_spec ty y c5 hy) wS ?_
    rintro v c6 hc6 rfl
    by_cases g5 : x.top < y.top
    · rw [if_pos g5] at ec
      refine zRF (jn g4 (jn g5 @n_neg')) ?_
      rw [ec]
    · rw [if_neg g5, if_pos (by omega)] at ec
      refine zRF (jn g4 g5) ?_
      rw [ec]
end Go.Proofs.YtplofcianjnkmaaGreatDoor
set_option linter.unusedSimpArgs false
set_option linter.unusedVariables false
set_option maxRecDepth 100000
set_option maxHeartbeats 8000000
namespace Go.Proofs.YtplofcianjnkmaaGreatDoor
open Go.VM

structure RD where
  neg : Bool
  l : List Nat
  e : Int
def RD.d (a : RD) : Dy := dyOf a.neg (val 18446744073709551616 a.l) a.e
def RD.of (d : Dy) : RD := ⟨d.neg, digs 18446744073709551616 d.m, d.e⟩
theorem RD.of_d {d : Dy} (h : d.Ok) : (RD.of d).d = d := by
  unfold RD.d RD.of
  simp only [val_digs two64]
  exact dyOf_id h
abbrev rdV (t : Tok) (a : RD) : V := raV a.neg t a.l a.e
abbrev rsV (t u : Tok) (a b : RD) : V := .agg [bv a.neg, nats t a.l, iv a.e, bv b.neg, nats u b.l, iv b.e]
structure RD.Ok (a : RD) : Prop where
  arg : Arg a.l
  fit : fitE a.e
theorem RD.Ok.num {a : RD} (h : a.Ok) : Num a.d := num_of h.arg h.fit

theorem Compare_spec (ta tb : Tok) (a b : RD) (c : Nat) (ha : a.Ok) (hb : b.Ok) : VSpec Tryz.prog F.dyadic_Compare c [rdV ta a, rdV tb b] (fun r _ => r = .tup [iv (cmpD a.d b.d), iv 0]) := by
  refine spec_mk hm E.dyadic_Compare B.dyadic_Compare K.dyadic_Compare Q.dyadic_Compare (by rw [N.dyadic_Compare]; simp) ?_
  unfold C.dyadic_Compare R.dyadic_Compare
  refine zR ?_
  refine s_call (two_spec a.neg b.neg ta tb a.l b.l a.e b.e (c + 2) ha.arg hb.arg ha.fit hb.fit) wS ?_
  rintro v c1 hc1 ⟨tx, ty, cm, h1, h2, rfl, _, _⟩
  refine zR ?_
  refine s_call (compare_spec' tx ty a.d b.d (c1 + 2) ha.num hb.num) wSr ?_
  rintro v c2 hc2 rfl
  refine zR ?_
  (first | omega | rfl | ((repeat' apply And.intro) <;> first | rfl | omega | assumption))
theorem Compare_bad (ta tb : Tok) (a b : RD) (c : Nat) (ha : Arg a.l) (h : ¬ fitE a.e ∨ ¬ fitE b.e) : VSpec Tryz.prog F.dyadic_Compare c [rdV ta a, rdV tb b] (fun r _ => r = .tup [iv 0, iv 80]) := by
  refine spec_mk hm E.dyadic_Compare B.dyadic_Compare K.dyadic_Compare Q.dyadic_Compare (by rw [N.dyadic_Compare]; simp) ?_
  unfold C.dyadic_Compare R.dyadic_Compare
  refine zR ?_
  refine s_call (two_bad a.neg b.neg ta tb a.l b.l a.e b.e (c + 2) ha h) wS ?_
  rintro v c1 hc1 ⟨x, y, rfl, ⟨n1, t1, l1, e1, rfl⟩, ⟨n2, t2, l2, e2, rfl⟩⟩
  refine zR ?_
  (first | omega | rfl | ((repeat' apply And.intro) <;> first | rfl | omega | assumption))

def chkE (a b : RD) : Int := if fitE a.e ∧ fitE b.e then (if 0 < cmpD a.d b.d then 100 else 0) else 80
theorem check_spec (ta tb : Tok) (a b : RD) (c : Nat) (ha : Arg a.l) (hb : Arg b.l) : VSpec Tryz.prog F.span_check c [rsV ta tb a b] (fun r _ => r = iv (chkE a b)) := by
  refine spec_mk hm E.span_check B.span_check K.span_check Q.span_check (by rw [N.span_check]; simp) ?_
  unfold C.span_check R.span_check
  unfold chkE
  refine zR ?_
  by_cases h : fitE a.e ∧ fitE b.e
  · refine s_call (Compare_spec ta tb a b (c + 1) ⟨ha, h.1⟩ ⟨hb, h.2⟩) wS ?_
    rintro v c1 hc1 rfl
    by_cases g : 0 < cmpD a.d b.d
    · refine zRF (jn g h) ?_
      (first | omega | rfl | ((repeat' apply And.intro) <;> first | rfl | omega | assumption))
    · refine zRF (jn g h) ?_
      (first | omega | rfl | ((repeat' apply And.intro) <;> first | rfl | omega | assumption))
  · refine s_call (Compare_bad ta tb a b (c + 1) ha (Classical.or_iff_not_imp_left.2 fun g q => h ⟨Classical.not_not.1 g, q⟩)) wS ?_
    rintro v c1 hc1 rfl
    refine zRF h ?_
    (first | omega | rfl | ((repeat' apply And.intro) <;> first | rfl | omega | assumption))

theorem worst_spec (e f : Int) (c : Nat) : VSpec Tryz.prog F.span_worst c [iv e, iv f] (fun r _ => r = iv (worstE e f)) := by
  refine spec_mk hm E.span_worst B.span_worst K.span_worst Q.span_worst (by rw [N.span_worst]; simp) ?_
  unfold C.span_worst R.span_worst
  by_cases g1 : e = 3
  · have ew : worstE e f = 3 := by unfold worstE; rw [if_pos (.inl g1)]
    rw [ew]
    refine xRF g1 ?_
    (first | omega | rfl | ((repeat' apply And.intro) <;> first | rfl | omega | assumption))
  by_cases g2 : f = 3
  · have ew : worstE e f = 3 := by unfold worstE; rw [if_pos (.inr g2)]
    rw [ew]
    refine xRF (jn g1 g2) ?_
    (first | omega | rfl | ((repeat' apply And.intro) <;> first | rfl | omega | assumption))
  by_cases g3 : e = 0
  · have ew : worstE e f = f := by unfold worstE; rw [if_neg (by omega), if_neg (by omega)]
    rw [ew]
    subst g3
    refine zRF g2 ?_
    (first | omega | rfl | ((repeat' apply And.intro) <;> first | rfl | omega | assumption))
  · have ew : worstE e f = e := by unfold worstE; rw [if_neg (by omega), if_pos g3]
    rw [ew]
    refine xRF (jn g1 (jn g2 g3)) ?_
    (first | omega | rfl | ((repeat' apply And.intro) <;> first | rfl | omega | assumption))
def rd0 : RD := ⟨false, [], 0⟩
theorem ends_spec (tx ty : Tok) (x y : RD) (e f : Int) (c : Nat) : VSpec Tryz.prog F.span_ends c [rdV tx x, iv e, rdV ty y, iv f] (fun r _ => r = if worstE e f = 0 then .tup [rsV tx ty x y, iv 0] else .tup [rsV .nil .nil rd0 rd0, iv (worstE e f)]) := by
  refine spec_mk hm E.span_ends B.span_ends K.span_ends Q.span_ends (by rw [N.span_ends]; simp) ?_
  unfold C.span_ends R.span_ends
  refine zR ?_
  refine s_call (worst_spec e f (c + 3)) wS ?_
  rintro v c1 hc1 rfl
  by_cases g : worstE e f = 0
  · refine zRF g ?_
    (first | omega | rfl | ((repeat' apply And.intro) <;> first | rfl | omega | assumption))
  · refine zRF g ?_
    (first | omega | rfl | ((repeat' apply And.intro) <;> first | rfl | omega | assumption))

def ansE (lo hi : Dy) : Int := worstE (tE lo) (tE hi)
def ansL (lo hi : Dy) : Dy := if ansE lo hi = 0 then lo else dy0
def ansH (lo hi : Dy) : Dy := if ansE lo hi = 0 then hi else dy0
def AnsS (c c' : Nat) (lo hi : Dy) (r : V) : Prop := ∃ t u cm, c ≤ cm ∧ cm ≤ c' ∧ r = .tup [rsV t u (RD.of (ansL lo hi)) (RD.of (ansH lo hi)), iv (ansE lo hi)] ∧ Own1 c cm t (digs 18446744073709551616 (ansL lo hi).m) ∧ Own1 cm c' u (digs 18446744073709551616 (ansH lo hi).m)
theorem AnsS.mono {a b c d : Nat} {x y : Dy} {r : V} (h : AnsS a b x y r) (h1 : c ≤ a) (h2 : b ≤ d) : AnsS c d x y r := by
  obtain ⟨t, u, cm, g1, g2, h, ht, hu⟩ := h
  exact ⟨t, u, cm, by omega, by omega, h, ht.mono h1 (Nat.le_refl _), hu.mono (Nat.le_refl _) h2⟩
theorem worst_zero {e f : Int} : worstE e f = 0 ↔ e = 0 ∧ f = 0 := by
  unfold worstE
  split
  · constructor
    · intro h; omega
    · omega
  · split
    · constructor
      · intro h; omega
      · intro h; omega
    · constructor
      · intro h; omega
      · intro h; omega
theorem ansE_zero {lo hi : Dy} : ansE lo hi = 0 ↔ tE lo = 0 ∧ tE hi = 0 := worst_zero
theorem ansS_of {c c1 c2 c3 : Nat} {lo hi : Dy} {t u : Tok} {r : V} (h1 : c ≤ c1) (h2 : c1 ≤ c2) (h3 : c2 ≤ c3) (ht : Own1 c c1 t (digs 18446744073709551616 (ansD lo).m)) (hu : Own1 c1 c2 u (digs 18446744073709551616 (ansD hi).m))
    (hr : r = if worstE (tE lo) (tE hi) = 0 then .tup [rsV t u (RD.of (ansD lo)) (RD.of (ansD hi)), iv 0] else .tup [rsV .nil .nil rd0 rd0, iv (worstE (tE lo) (tE hi))]) : AnsS c c3 lo hi r := by
  by_cases g : ansE lo hi = 0
  · obtain ⟨g1, g2⟩ := ansE_zero.1 g
    have e1 : ansL lo hi = lo := if_pos g
    have e2 : ansH lo hi = hi := if_pos g
    rw [if_pos (by exact g), ansD_ok g1, ansD_ok g2] at hr
    rw [ansD_ok g1] at ht
    rw [ansD_ok g2] at hu
    refine ⟨t, u, c1, by omega, by omega, ?_, ?_, ?_⟩
    · rw [hr, e1, e2, g]
    · rw [e1]; exact ht
    · rw [e2]; exact hu.mono (Nat.le_refl _) h3
  · have e1 : ansL lo hi = dy0 := if_neg g
    have e2 : ansH lo hi = dy0 := if_neg g
    rw [if_neg (by exact g)] at hr
    refine ⟨.nil, .nil, c1, by omega, by omega, ?_, ?_, ?_⟩
    · rw [hr, e1, e2]; rfl
    · rw [e1]; exact .inl ⟨rfl, rfl⟩
    · rw [e2]; exact .inl ⟨rfl, rfl⟩

theorem Scale_spec (t : Tok) (a : RD) (k : Int) (c : Nat) (ha : a.Ok) (hk : fitE k) : VSpec Tryz.prog F.dyadic_Scale c [rdV t a, iv k] (fun r c' => AnsD c c' (dyOf a.d.neg a.d.m (a.d.e + k)) r) := by
  refine spec_mk hm E.dyadic_Scale B.dyadic_Scale K.dyadic_Scale Q.dyadic_Scale (by rw [N.dyadic_Scale]; simp) ?_
  unfold C.dyadic_Scale R.dyadic_Scale
  have hn := ha.num
  have hna := hn.arg
  have hlen := hna.len
  have n1 := hn.lo
  have n2 := hn.hi
  have hk' := hk
  unfold fitE at hk'
  refine zR ?_
  refine s_call (read_spec a.neg t a.l a.e (c + 2) ha.arg ha.fit) wS ?_
  rintro v c1 hc1 ⟨tk, rfl, htk⟩
  have ed : dyOf a.neg (val 18446744073709551616 a.l) a.e = a.d := rfl
  rw [ed] at *
  refine zR ?_
  refine s_call (within_spec k (c1 + 1)) wS ?_
  rintro v c2 hc2 rfl
  refine zRF hk ?_
  refine s_call (dtold_spec a.d.neg tk (digs 18446744073709551616 a.d.m) (a.d.e + k) c2 hna.lim (by omega) (by omega) (by omega) (.inr (by rw [val_digs two64]; exact Nat.le_trans (bl_od _) hn.bits))) wS ?_
  rw [val_digs two64]
  rintro v c3 hc3 ⟨tr, rfl, htr⟩
  refine zR ?_
  exact ⟨tr, rfl, htr.mono (by omega) (by omega)⟩
theorem norm_spec' (t : Tok) (a : RD) (c : Nat) (ha : a.Ok) : VSpec Tryz.prog F.span_norm c [rdV t a] (fun r c' => AnsD c c' a.d r) := by
  refine spec_mk hm E.span_norm B.span_norm K.span_norm Q.span_norm (by rw [N.span_norm]; simp) ?_
  unfold C.span_norm R.span_norm
  refine zR ?_
  refine s_call (Scale_spec t a 0 (c + 2) ha ⟨by decide, by decide⟩) wS ?_
  rw [Int.add_zero, dyOf_id ha.num.ok]
  rintro v c1 hc1 ⟨tr, rfl, htr⟩
  refine zR ?_
  exact ⟨tr, rfl, htr.mono (by omega) (by omega)⟩
theorem normal_spec (ta tb : Tok) (a b : RD) (c : Nat) (ha : a.Ok) (hb : b.Ok) : VSpec Tryz.prog F.span_normal c [rdV ta a, rdV tb b] (fun r c' => AnsS c c' a.d b.d r) := by
  refine spec_mk hm E.span_normal B.span_normal K.span_normal Q.span_normal (by rw [N.span_normal]; simp) ?_
  unfold C.span_normal R.span_normal
  refine zR ?_
  refine s_call (norm_spec' ta a (c + 3) ha) wS ?_
  rintro v c1 hc1 ⟨t1, rfl, ht1⟩
  refine zR ?_
  refine s_call (norm_spec' tb b (c1 + 1) hb) wS ?_
  rintro v c2 hc2 ⟨t2, rfl, ht2⟩
  refine zR ?_
  refine s_call (ends_spec t1 t2 (RD.of (ansD a.d)) (RD.of (ansD b.d)) (tE a.d) (tE b.d) (c2 + 1)) wSr ?_
  rintro v c3 hc3 hv
  have hA := ansS_of (c := c) (c1 := c1) (c2 := c2) (c3 := c3) (by omega) (by omega) (by omega) (ht1.mono (by omega) (by omega)) (ht2.mono (by omega) (by omega)) hv
  obtain ⟨t, u, cm, g1, g2, rfl, gt, gu⟩ := hA
  refine zR ?_
  exact ⟨t, u, cm, by omega, by omega, rfl, gt, gu⟩
end Go.Proofs.YtplofcianjnkmaaGreatDoor
set_option linter.unusedSimpArgs false
set_option linter.unusedVariables false
set_option maxRecDepth 100000
set_option maxHeartbeats 8000000
namespace Go.Proofs.YtplofcianjnkmaaGreatDoor
open Go.VM

structure AnsF (c c' : Nat) (f : Int) (lo hi : Dy) (r : V) : Prop where
  bad : f ≠ 0 → r = .tup [rsV .nil .nil rd0 rd0, iv f]
  ok : f = 0 → AnsS c c' lo hi r
theorem chk_ok {a b : RD} (h : chkE a b = 0) : fitE a.e ∧ fitE b.e ∧ leD a.d b.d := by
  unfold chkE at h
  split at h
  · rename_i g
    split at h
    · omega
    · exact ⟨g.1, g.2, by unfold leD; omega⟩
  · omega
theorem Make_spec (ta tb : Tok) (a b : RD) (c : Nat) (ha : Arg a.l) (hb : Arg b.l) : VSpec Tryz.prog F.span_Make c [rdV ta a, rdV tb b] (fun r c' => AnsF c c' (chkE a b) a.d b.d r) := by
  refine spec_mk hm E.span_Make B.span_Make K.span_Make Q.span_Make (by rw [N.span_Make]; simp) ?_
  unfold C.span_Make R.span_Make
  refine zR ?_
  refine s_call (check_spec ta tb a b (c + 3) ha hb) wS ?_
  rintro v c1 hc1 rfl
  by_cases g : chkE a b = 0
  · obtain ⟨g1, g2, _⟩ := chk_ok g
    refine zRF g ?_
    refine s_call (normal_spec ta tb a b c1 ⟨ha, g1⟩ ⟨hb, g2⟩) wS ?_
    rintro v c2 hc2 ⟨t, u, cm, h1, h2, rfl, ht, hu⟩
    refine zR ?_
    exact ⟨fun h => (by first | exact absurd rfl h | exact absurd g h), fun _ => ⟨t, u, cm, by omega, by omega, rfl, ht.mono (by omega) (Nat.le_refl _), hu.mono (Nat.le_refl _) (by omega)⟩⟩
  · refine zRF g ?_
    exact ⟨fun _ => rfl, fun h => absurd h g⟩
end Go.Proofs.YtplofcianjnkmaaGreatDoor
set_option linter.unusedSimpArgs false
set_option linter.unusedVariables false
set_option maxRecDepth 100000
set_option maxHeartbeats 8000000
namespace Go.Proofs.YtplofcianjnkmaaGreatDoor
open Go.VM

theorem digs32_len {n : Nat} (h : bl n ≤ 68719476736) : (digs 4294967296 n).length ≤ 2147483648 := by
  have h1 : ∀ k, bl n ≤ 32 * k → (digs 4294967296 n).length ≤ k := fun k hk => digs_len (by decide) (by rw [pow32]; exact lt_of_bl hk)
  exact h1 2147483648 (by omega)
theorem val_getD {b : Nat} (hb : 0 < b) : ∀ (l : List Nat) (i : Nat), Lim b l → l.getD i 0 = val b l / b ^ i % b
  | [], i, _ => by simp [val]
  | x :: l, 0, h => by
    have := h.head
    simp [val, Nat.add_mul_mod_self_left, Nat.mod_eq_of_lt this]
  | x :: l, i + 1, h => by
    have hx := h.head
    have ih := val_getD hb l i h.tail
    rw [List.getD_cons_succ, ih, val_cons, Nat.pow_succ, Nat.mul_comm (b ^ i) b, ← Nat.div_div_eq_div_mul, Nat.add_mul_div_left _ _ hb, Nat.div_eq_of_lt hx, Nat.zero_add]
theorem digs_getD {b : Nat} (hb : 2 ≤ b) (n i : Nat) : (digs b n).getD i 0 = n / b ^ i % b := by
  rw [val_getD (by omega) _ _ (lim_digs hb n), val_digs hb]
theorem bit_digit {n i : Nat} : n / 4294967296 ^ (i / 32) % 4294967296 / 2 ^ (i % 32) % 2 = n / 2 ^ i % 2 := by
  have e : n / 2 ^ i = n / 4294967296 ^ (i / 32) / 2 ^ (i % 32) := by
    rw [Nat.div_div_eq_div_mul, pow32, ← Nat.pow_add, Nat.div_add_mod]
  rw [e]
  generalize n / 4294967296 ^ (i / 32) = x
  have h1 := Nat.testBit_mod_two_pow x 32 (i % 32)
  rw [Nat.testBit_eq_decide_div_mod_eq, Nat.testBit_eq_decide_div_mod_eq] at h1
  have h2 : decide (i % 32 < 32) = true := decide_eq_true (by omega)
  rw [h2, Bool.true_and, decide_eq_decide] at h1
  have h3 : x % 2 ^ 32 = x % 4294967296 := by rfl
  rw [h3] at h1
  omega

theorem bitR (t : Tok) (n i c : Nat) (hn : (digs 4294967296 n).length ≤ 4398046511104) (hi : i ≤ 1099511627776) : VSpec Tryz.prog F.surdref01_Num_Bit c [nats t (digs 4294967296 n), iv (i : Int)] (fun r _ => r = iv ((n / 2 ^ i % 2 : Nat) : Int)) := by
  refine spec_mk hm E.surdref01_Num_Bit B.surdref01_Num_Bit K.surdref01_Num_Bit Q.surdref01_Num_Bit (by rw [N.surdref01_Num_Bit]; simp) ?_
  unfold C.surdref01_Num_Bit R.surdref01_Num_Bit
  have d1 : (i : Int) / 32 = ((i / 32 : Nat) : Int) := by omega
  have d2 : (i : Int) % 32 = ((i % 32 : Nat) : Int) := by omega
  have g1 : ¬ (i : Int) < 0 := by omega
  by_cases g2 : ((digs 4294967296 n).length : Int) ≤ ((i / 32 : Nat) : Int)
  · have e0 : n / 2 ^ i = 0 := by
      have h := val_lt (lim_digs (b := 4294967296) (by decide) n)
      rw [val_digs (by decide), pow32] at h
      exact Nat.div_eq_of_lt (Nat.lt_of_lt_of_le h (Nat.pow_le_pow_right (by decide) (by omega)))
    refine xRF (jn g1 (jn d1 g2)) ?_
    rw [e0]
    (first | omega | rfl | ((repeat' apply And.intro) <;> first | rfl | omega | assumption))
  · have e1 := digs_getD (b := 4294967296) (by decide) n (i / 32)
    have e2 := bit_digit (n := n) (i := i)
    have e3 : min (i % 32) 64 = i % 32 := by omega
    refine xRF (jn g1 (jn d1 (jn d2 (jn g2 (jn e1 (jn e3 (jn @u_and1 e2))))))) ?_
    (first | omega | rfl | ((repeat' apply And.intro) <;> first | rfl | omega | assumption))

theorem tz_bit {n i : Nat} (hn : n ≠ 0) (hi : i ≤ tz n) : n / 2 ^ i % 2 = 0 ↔ i < tz n := by
  obtain ⟨h1, h2⟩ := tz_od hn
  obtain ⟨k, hk⟩ := Nat.exists_eq_add_of_le hi
  have e : n / 2 ^ i = 2 ^ k * od n := by
    rw [hk, Nat.pow_add, Nat.mul_assoc] at h1
    conv => lhs; rw [h1]
    rw [Nat.mul_div_cancel_left _ (Nat.two_pow_pos i)]
  rw [e]
  cases k with
  | zero => simp; omega
  | succ k =>
    rw [Nat.pow_succ, Nat.mul_comm (2 ^ k) 2, Nat.mul_assoc, Nat.mul_mod_right]
    constructor
    · intro _; omega
    · intro _; rfl
theorem tailR (t : Tok) (n c : Nat) (hn : bl n ≤ 68719476736) : VSpec Tryz.prog F.surdref01_Num_Tail c [nats t (digs 4294967296 n)] (fun r _ => r = iv (tz n : Nat)) := by
  refine spec_mk hm E.surdref01_Num_Tail B.surdref01_Num_Tail K.surdref01_Num_Tail Q.surdref01_Num_Tail (by rw [N.surdref01_Num_Tail]; simp) ?_
  unfold C.surdref01_Num_Tail R.surdref01_Num_Tail
  have hl := digs32_len (n := n) hn
  by_cases g : n = 0
  · subst g
    have e0 : (((digs 4294967296 0).length : Nat) : Int) = 0 := rfl
    refine xRF e0 ?_
    rw [tz_zero]
    (first | omega | rfl | ((repeat' apply And.intro) <;> first | rfl | omega | assumption))
  · have hne : ¬ (((digs 4294967296 n).length : Nat) : Int) = 0 := by
      intro h
      exact g ((digs_eq_nil (b := 4294967296) (by decide)).1 (List.eq_nil_of_length_eq_zero (by omega)))
    have htz : tz n ≤ 68719476736 := Nat.le_trans (tz_le_bl n) hn
    refine xRF hne ?_
    refine v_loop (fun S => S.ρ 3 = iv (tz n : Nat) ∧ S.σ = noBlk ∧ c ≤ S.c) ?_ ?_
    · refine vwp_loop (fun k S => ∃ i, k = tz n - i ∧ i ≤ tz n ∧ S.ρ 0 = nats t (digs 4294967296 n) ∧ S.ρ 3 = iv (i : Nat) ∧ S.σ = noBlk ∧ c ≤ S.c) (tz n) ?_ ?_
      · refine ⟨0, by omega, by omega, ?_⟩
        refine xS ?_
        (repeat' apply And.intro) <;> first | rfl | omega | assumption
      rintro k ⟨ρ, σ, c3⟩ ⟨i, hk, hi, h0, h3, hσ, hc3⟩
      dsimp only at h0 h3 hσ hc3
      subst hσ
      have hb := tz_bit g hi
      refine xRF (jn h0 h3) ?_
      refine s_call (bitR t n i c3 (by omega) (by omega)) (yMF (jn h0 h3)) ?_
      rintro v c4 hc4 rfl
      by_cases g2 : i < tz n
      · have e0 : ((n / 2 ^ i % 2 : Nat) : Int) = 0 := by rw [hb.2 g2]; rfl
        refine xRF (jn h0 (jn h3 e0)) ?_
        refine ⟨tz n - (i + 1), by omega, i + 1, ?_⟩
        (repeat' apply And.intro) <;> first | rfl | omega | assumption
      · have e0 : ¬ ((n / 2 ^ i % 2 : Nat) : Int) = 0 := by intro h; exact g2 (hb.1 (by omega))
        have ei : i = tz n := by omega
        refine xRF (jn h0 (jn h3 e0)) ?_
        rw [← ei]
        (repeat' apply And.intro) <;> first | rfl | omega | assumption
    rintro ⟨ρ3, σ, c5⟩ ⟨h3, hσ, hc5⟩
    dsimp only at h3 hσ hc5
    subst hσ
    refine xRF h3 ?_
    (first | omega | rfl | ((repeat' apply And.intro) <;> first | rfl | omega | assumption))

theorem shr_digit {X s : Nat} (hs : s < 32) {u v : Nat} (hu : u = X % 4294967296) (hv : v = X / 4294967296 % 4294967296) : (u + v * 4294967296) / 2 ^ s % 4294967296 = X / 2 ^ s % 4294967296 := by
  have e : u + v * 4294967296 = X % 2 ^ 64 := by
    rw [hu, hv]
    have : (2 : Nat) ^ 64 = 4294967296 * 4294967296 := by decide
    rw [this, Nat.mod_mul]
    omega
  rw [e]
  have h1 : X % 2 ^ 64 / 2 ^ s % 2 ^ 32 = X / 2 ^ s % 2 ^ 32 := by
    apply Nat.eq_of_testBit_eq
    intro i
    simp only [Nat.testBit_mod_two_pow, Nat.testBit_div_two_pow]
    by_cases g : i < 32
    · have : i + s < 64 := by omega
      simp [g, this]
    · simp [g]
  exact h1
theorem shrT (t : Tok) (n k c : Nat) (hn : bl n ≤ 68719476736) (hk : k ≤ 1099511627776) : VSpec Tryz.prog F.surdref01_Shr c [nats t (digs 4294967296 n), iv (k : Int)] (fun r c' => ∃ tk, r = nats tk (digs 4294967296 (n / 2 ^ k)) ∧ Tk c c' tk) := by
  refine spec_mk hm E.surdref01_Shr B.surdref01_Shr K.surdref01_Shr Q.surdref01_Shr (by rw [N.surdref01_Shr]; simp) ?_
  unfold C.surdref01_Shr R.surdref01_Shr
  have hl := digs32_len (n := n) hn
  have d1 : (k : Int) / 32 = ((k / 32 : Nat) : Int) := by omega
  have d2 : (k : Int) % 32 = ((k % 32 : Nat) : Int) := by omega
  have hdg := digs_getD (b := 4294967296) (by decide) n
  have hlt := val_lt (lim_digs (b := 4294967296) (by decide) n)
  rw [val_digs (by decide)] at hlt
  generalize digs 4294967296 n = x at *
  obtain ⟨q, hq⟩ : ∃ q, q = k / 32 := ⟨_, rfl⟩
  obtain ⟨s, hs⟩ : ∃ s, s = k % 32 := ⟨_, rfl⟩
  have eY : n / 2 ^ k = n / 4294967296 ^ q / 2 ^ s := by
    rw [Nat.div_div_eq_div_mul, pow32, ← Nat.pow_add, hq, hs, Nat.div_add_mod]
  rw [← hq] at d1
  rw [← hs] at d2
  by_cases g0 : (x.length : Int) ≤ (q : Int)
  · refine xRF (jn d1 (jn d2 g0)) ?_
    have e0 : n / 4294967296 ^ q = 0 := Nat.div_eq_of_lt (Nat.lt_of_lt_of_le hlt (Nat.pow_le_pow_right (by decide) (by omega)))
    rw [eY, e0, Nat.zero_div]
    exact ⟨.nil, rfl, .inl rfl⟩
  obtain ⟨m, hm⟩ : ∃ m, m = x.length - q := ⟨_, rfl⟩
  have hm2 : (x.length : Int) - (q : Int) = (m : Int) := by omega
  obtain ⟨Y, hY⟩ : ∃ Y, Y = n / 2 ^ k := ⟨_, rfl⟩
  have hYlt : Y < 4294967296 ^ m := by
    rw [hY, eY]
    refine Nat.lt_of_le_of_lt (Nat.div_le_self _ _) ?_
    rw [Nat.div_lt_iff_lt_mul (Nat.pow_pos (by decide)), ← Nat.pow_add]
    rw [show m + q = x.length by omega]
    exact hlt
  refine xRF (jn d1 (jn d2 (jn g0 hm2))) ?_
  refine s_mk (n := m) (m := m) yS yS (Nat.le_refl _) (by omega) ?_
  refine xRF (jn d1 d2) ?_
  refine v_loop (fun S => ∃ w, w.length = m ∧ Lim 4294967296 w ∧ val 4294967296 w = Y ∧ S.ρ 5 = .buf c 0 m (some m) 1 ∧ S.σ = supd noBlk c (nblk w) ∧ c + 1 ≤ S.c) ?_ ?_
  · refine vwp_loop (fun r S => ∃ i w, r = m - i ∧ i ≤ m ∧ w.length = i ∧ Lim 4294967296 w ∧ val 4294967296 w = Y % 4294967296 ^ i ∧ S.ρ 0 = nats t x ∧ S.ρ 1 = iv k ∧ S.ρ 6 = iv s ∧ S.ρ 23 = iv m ∧ S.ρ 24 = iv i ∧ S.ρ 5 = .buf c 0 m (some m) 1 ∧ S.σ = supd noBlk c (nblk (w ++ List.replicate (m - i) 0)) ∧ c + 1 ≤ S.c) m ?_ ?_
    · refine ⟨0, [], by omega, by omega, ?_⟩
      refine xS ?_
      (repeat' apply And.intro) <;> first | rfl | omega | assumption | exact Lim.nil | (simp [val, Nat.mod_one]; done)
    rintro r ⟨ρ2, σ, c4⟩ ⟨i, w, hr, hi, hw, hlw, hinv, h0, h1, h6, h23, h24, h5, hσ, hc4⟩
    dsimp only at h0 h1 h6 h23 h24 h5 hσ hc4
    subst hσ
    by_cases g : (i : Int) < m
    · have e0 : (i : Int) + (q : Int) = ((i + q : Nat) : Int) := by omega
      have e1 : ((i + q : Nat) : Int).toNat = i + q := by omega
      have e1b : i + q < x.length := by omega
      have e2 : ((i + q : Nat) : Int) + 1 = ((i + q + 1 : Nat) : Int) := by omega
      have e3 : min s 64 = s := by omega
      have hxi : x.getD (i + q) 0 < 4294967296 := by rw [hdg]; exact Nat.mod_lt _ (by decide)
      have hxj : x.getD (i + q + 1) 0 < 4294967296 := by rw [hdg]; exact Nat.mod_lt _ (by decide)
      have m1 : x.getD (i + q + 1) 0 * 4294967296 % 18446744073709551616 = x.getD (i + q + 1) 0 * 4294967296 := by omega
      have m2 : (x.getD (i + q) 0 + x.getD (i + q + 1) 0 * 4294967296) % 18446744073709551616 = x.getD (i + q) 0 + x.getD (i + q + 1) 0 * 4294967296 := by omega
      have m3 : (x.getD (i + q) 0 + x.getD (i + q + 1) 0 * 4294967296) / 2 ^ s % 4294967296 = Y / 4294967296 ^ i % 4294967296 := by
        rw [shr_digit (X := n / 4294967296 ^ (i + q)) (by omega) (hdg _) (by rw [hdg, Nat.pow_succ, Nat.div_div_eq_div_mul])]
        congr 1
        rw [hY, eY, Nat.div_div_eq_div_mul, Nat.div_div_eq_div_mul, Nat.div_div_eq_div_mul]
        congr 1
        rw [Nat.pow_add, Nat.mul_assoc, Nat.mul_comm (4294967296 ^ i), Nat.mul_assoc]
      have hlen : (w ++ List.replicate (m - i) 0).length = m := by simp; omega
      have hset : ∀ v, (w ++ List.replicate (m - i) 0).set i v = (w ++ [v]) ++ List.replicate (m - (i + 1)) 0 := fun v => by
        have := set_fill w (m - (i + 1)) v
        rw [hw] at this
        rw [show m - i = m - (i + 1) + 1 by omega, this]
      have key : val 4294967296 (w ++ [Y / 4294967296 ^ i % 4294967296]) = Y % 4294967296 ^ (i + 1) := by
        rw [val_append, hw, hinv, val, val, Nat.mul_zero, Nat.add_zero, Nat.mod_pow_succ]
      refine xRF (jn h0 (jn h1 (jn h6 (jn h23 (jn h24 (jn h5 (jn g (jn d1 (jn d2 (jn e0 (jn e1 (jn e1b e2)))))))))))) ?_
      refine s_call (at_spec t x (i + q + 1) c4 (by omega)) (yMF h0) ?_
      rintro v c5 hc5 rfl
      refine xRF (jn h0 (jn h1 (jn h6 (jn h23 (jn h24 (jn h5 (jn e2 (jn e3 (jn m1 (jn m2 (jn hlen hset))))))))))) ?_
      rw [m3]
      refine ⟨m - (i + 1), by omega, i + 1, w ++ [Y / 4294967296 ^ i % 4294967296], ?_⟩
      (repeat' apply And.intro) <;> first | rfl | exact key | exact lim_snoc hlw (Nat.mod_lt _ (by decide)) | (simp [hw]; done) | omega | assumption
    · have hi' : i = m := by omega
      subst hi'
      refine xRF (jn h0 (jn h1 (jn h6 (jn h23 (jn h24 (jn h5 g)))))) ?_
      refine ⟨w, ?_⟩
      have e0 : w ++ List.replicate (i - i) 0 = w := by simp
      rw [e0]
      have hv : val 4294967296 w = Y := by rw [hinv, Nat.mod_eq_of_lt hYlt]
      (repeat' apply And.intro) <;> first | rfl | omega | assumption | exact hv
  rintro ⟨ρ3, σ, c5⟩ ⟨w, hw, hlw, hvw, h5, hσ, hc5⟩
  dsimp only at h5 hσ hc5
  subst hσ
  refine v_freeze 5 (t := c) (off := 0) (n := m) (cap := some m) (l := w) (ySF h5) yS (by omega) (by omega) ?_
  rw [List.drop_zero, show w.take m = w from List.take_of_length_le (by omega)]
  refine xR ?_
  refine s_call (norm32_spec (.id c) w c5 hlw (by omega)) yM ?_
  rintro v c6 hc6 rfl
  rw [hvw]
  refine xR ?_
  rw [← hY]
  exact ⟨_, rfl, .inr ⟨c, rfl, by omega, by omega⟩⟩
end Go.Proofs.YtplofcianjnkmaaGreatDoor
set_option linter.unusedSimpArgs false
set_option linter.unusedVariables false
set_option maxRecDepth 100000
set_option maxHeartbeats 8000000
namespace Go.Proofs.YtplofcianjnkmaaGreatDoor
open Go.VM

abbrev zV (t : Tok) (neg : Bool) (n : Nat) : V := .agg [bv neg, nats t (digs 4294967296 n)]
abbrev fV (t : Tok) (d : Dy) : V := .agg [bv d.neg, nats t (digs 4294967296 d.m), iv d.e]
def zneg (neg : Bool) (n : Nat) : Bool := neg && !decide (n = 0)
theorem lenOk {n : Nat} (h : bl n ≤ 68719476736) : (digs 4294967296 n).length ≤ 4398046511104 := Nat.le_trans (digs32_len h) (by decide)

theorem make1_spec (neg : Bool) (t : Tok) (n c : Nat) (hn : bl n ≤ 68719476736) : VSpec Tryz.prog F.surdref06_make1 c [bv neg, nats t (digs 4294967296 n)] (fun r _ => r = zV t (zneg neg n) n) := by
  refine spec_mk hm E.surdref06_make1 B.surdref06_make1 K.surdref06_make1 Q.surdref06_make1 (by rw [N.surdref06_make1]; simp) ?_
  unfold C.surdref06_make1 R.surdref06_make1
  have hl := lenOk hn
  cases neg
  · refine zR ?_
    (first | omega | rfl | ((repeat' apply And.intro) <;> first | rfl | omega | assumption))
  · refine zR ?_
    refine s_call (zero_spec t n (c + 1) hl) wS ?_
    rintro v c1 hc1 rfl
    refine zR ?_
    (first | omega | rfl | ((repeat' apply And.intro) <;> first | rfl | omega | assumption))
theorem of06_spec (neg : Bool) (t : Tok) (l : List Nat) (c : Nat) (hl : Arg l) : VSpec Tryz.prog F.surdref06_Of c [bv neg, nats t l] (fun r _ => ∃ tk, r = zV tk (zneg neg (val 18446744073709551616 l)) (val 18446744073709551616 l)) := by
  refine spec_mk hm E.surdref06_Of B.surdref06_Of K.surdref06_Of Q.surdref06_Of (by rw [N.surdref06_Of]; simp) ?_
  unfold C.surdref06_Of R.surdref06_Of
  have h1 := hl.len
  have h2 := hl.bl
  refine zR ?_
  refine s_call (of_spec t l (c + 1) hl.lim (by omega)) wS ?_
  rintro v c1 hc1 ⟨i, rfl, _, _⟩
  refine zR ?_
  refine s_call (make1_spec neg (.id i) (val 18446744073709551616 l) c1 (by omega)) wS ?_
  rintro v c2 hc2 rfl
  refine zR ?_
  exact ⟨_, rfl⟩
theorem zsign_spec (neg : Bool) (t : Tok) (n c : Nat) (hn : bl n ≤ 68719476736) (hz : n = 0 → neg = false) : VSpec Tryz.prog F.surdref06_Z_Sign c [zV t neg n] (fun r _ => r = iv (sgW neg n)) := by
  refine spec_mk hm E.surdref06_Z_Sign B.surdref06_Z_Sign K.surdref06_Z_Sign Q.surdref06_Z_Sign (by rw [N.surdref06_Z_Sign]; simp) ?_
  unfold C.surdref06_Z_Sign R.surdref06_Z_Sign
  have hl := lenOk hn
  cases neg
  · refine zR ?_
    refine s_call (zero_spec t n (c + 1) hl) wS ?_
    rintro v c1 hc1 rfl
    by_cases g : n = 0
    · have e : sgW false n = 0 := if_pos g
      rw [e]
      refine zRF g ?_
      (first | omega | rfl | ((repeat' apply And.intro) <;> first | rfl | omega | assumption))
    · have e : sgW false n = 1 := by unfold sgW; rw [if_neg g]; rfl
      rw [e]
      refine zRF g ?_
      (first | omega | rfl | ((repeat' apply And.intro) <;> first | rfl | omega | assumption))
  · have g : n ≠ 0 := fun h => by cases hz h
    have e : sgW true n = -1 := by unfold sgW; rw [if_neg g]; rfl
    rw [e]
    refine zR ?_
    (first | omega | rfl | ((repeat' apply And.intro) <;> first | rfl | omega | assumption))
theorem of08T (neg : Bool) (t : Tok) (n : Nat) (e : Int) (c : Nat) (hn : bl n ≤ 68719476736) (hz : n = 0 → neg = false) (he1 : -4611686018427387904 ≤ e) (he2 : e ≤ 4611686018427387904) :
    VSpec Tryz.prog F.surdref08_Of c [zV t neg n, iv e] (fun r c' => ∃ tk, r = fV tk (dyOf neg n e) ∧ Tk c c' tk) := by
  refine spec_mk hm E.surdref08_Of B.surdref08_Of K.surdref08_Of Q.surdref08_Of (by rw [N.surdref08_Of]; simp) ?_
  unfold C.surdref08_Of R.surdref08_Of
  refine zR ?_
  refine s_call (zsign_spec neg t n (c + 2) hn hz) wS ?_
  rintro v c1 hc1 rfl
  by_cases g : n = 0
  · have e0 : sgW neg n = 0 := by unfold sgW; rw [if_pos g]
    have ed : dyOf neg n e = dy0 := by unfold dyOf; rw [if_pos g]
    rw [ed]
    refine zRF e0 ?_
    exact ⟨.nil, rfl, .inl rfl⟩
  · have e0 : ¬ sgW neg n = 0 := by unfold sgW; rw [if_neg g]; split <;> decide
    have ed : dyOf neg n e = ⟨neg, od n, e + (tz n : Int)⟩ := by unfold dyOf; rw [if_neg g]
    have htz : tz n ≤ 68719476736 := Nat.le_trans (tz_le_bl n) hn
    rw [ed]
    refine zRF e0 ?_
    refine s_call (tailR t n c1 hn) wS ?_
    rintro v c2 hc2 rfl
    refine zR ?_
    refine s_call (shrT t n (tz n) c2 hn (by omega)) wS ?_
    rintro v c3 hc3 ⟨tk, rfl, htk⟩
    refine zR ?_
    exact ⟨tk, rfl, htk.mono (by omega) (by omega)⟩
theorem of08_spec (neg : Bool) (t : Tok) (n : Nat) (e : Int) (c : Nat) (hn : bl n ≤ 68719476736) (hz : n = 0 → neg = false) (he1 : -4611686018427387904 ≤ e) (he2 : e ≤ 4611686018427387904) :
    VSpec Tryz.prog F.surdref08_Of c [zV t neg n, iv e] (fun r _ => ∃ tk, r = fV tk (dyOf neg n e)) := (of08T neg t n e c hn hz he1 he2).mono fun r c' ⟨tk, h, _⟩ => ⟨tk, h⟩
theorem fits_spec' (e : Int) (c : Nat) : VSpec Tryz.prog F.surdref08_Fits c [iv e] (fun r _ => r = bv (decide (fitE e))) := by
  refine spec_mk hm E.surdref08_Fits B.surdref08_Fits K.surdref08_Fits Q.surdref08_Fits (by rw [N.surdref08_Fits]; simp) ?_
  unfold C.surdref08_Fits R.surdref08_Fits
  by_cases g1 : -1099511627776 ≤ e
  · by_cases g2 : e ≤ 1099511627776
    · have g : fitE e := ⟨g1, g2⟩
      refine xRF (jn g1 (jn g2 g)) ?_
      omega
    · have g : ¬ fitE e := fun h => g2 h.2
      refine xRF (jn g1 (jn g2 g)) ?_
      omega
  · have g : ¬ fitE e := fun h => g1 h.1
    refine xRF (jn g1 g) ?_
    omega

structure RNum (d : Dy) : Prop where
  ok : d.Ok
  bits : bl d.m ≤ 68719476736
  lo : -2305843009213693952 ≤ d.e
  hi : d.e ≤ 2305843009213693952
theorem Num.r {d : Dy} (h : Num d) : RNum d := ⟨h.ok, by have := h.bits; omega, by have := h.lo; omega, by have := h.hi; omega⟩
theorem RNum.nz {d : Dy} (h : RNum d) : d.m = 0 → d.neg = false := fun g => by rw [h.ok.zero g]; rfl

theorem rtop_spec (t : Tok) (x : Dy) (c : Nat) (hx : RNum x) : VSpec Tryz.prog F.surdref08_D_Top c [fV t x] (fun r _ => r = iv x.top) := by
  refine spec_mk hm E.surdref08_D_Top B.surdref08_D_Top K.surdref08_D_Top Q.surdref08_D_Top (by rw [N.surdref08_D_Top]; simp) ?_
  unfold C.surdref08_D_Top R.surdref08_D_Top
  have h1 := hx.lo
  have h2 := hx.hi
  have h3 := hx.bits
  refine zR ?_
  refine s_call (len_spec t x.m (c + 1) (lenOk h3)) wS ?_
  rintro v c1 hc1 rfl
  have et : x.top = (bl x.m : Int) - 1 + x.e := by unfold Dy.top; omega
  rw [et]
  refine zR ?_
  (first | omega | rfl | ((repeat' apply And.intro) <;> first | rfl | omega | assumption))
theorem rtold_spec (t : Tok) (x : Dy) (c : Nat) (hx : RNum x) : VSpec Tryz.prog F.surdref08_Told c [fV t x] (fun r _ => ∃ tk, r = .tup [fV tk (ansD x), iv (tE x)]) := by
  refine spec_mk hm E.surdref08_Told B.surdref08_Told K.surdref08_Told Q.surdref08_Told (by rw [N.surdref08_Told]; simp) ?_
  unfold C.surdref08_Told R.surdref08_Told
  have h3 := hx.bits
  refine zR ?_
  refine s_call (len_spec t x.m (c + 2) (lenOk h3)) wS ?_
  rintro v c1 hc1 rfl
  rcases tE_cases x with ⟨h1, h2⟩ | ⟨h1, h2, h3⟩ | ⟨h1, h2, h3⟩
  · have g1 : (67108864 : Int) < (bl x.m : Int) := by omega
    rw [ansD_bad (by rw [h2]; decide), h2]
    refine zRF g1 ?_
    exact ⟨.nil, rfl⟩
  · have g1 : ¬ (67108864 : Int) < (bl x.m : Int) := by omega
    rw [ansD_ok h3, h3]
    refine zRF g1 ?_
    refine s_call (fits_spec' x.e c1) wS ?_
    rintro v c2 hc2 rfl
    refine zRF (jn g1 h2) ?_
    exact ⟨t, rfl⟩
  · have g1 : ¬ (67108864 : Int) < (bl x.m : Int) := by omega
    rw [ansD_bad (by rw [h3]; decide), h3]
    refine zRF g1 ?_
    refine s_call (fits_spec' x.e c1) wS ?_
    rintro v c2 hc2 rfl
    refine zRF (jn g1 h2) ?_
    exact ⟨.nil, rfl⟩
theorem rworst_spec (e f : Int) (c : Nat) : VSpec Tryz.prog F.surdref10_worst c [iv e, iv f] (fun r _ => r = iv (worstE e f)) := by
  refine spec_mk hm E.surdref10_worst B.surdref10_worst K.surdref10_worst Q.surdref10_worst (by rw [N.surdref10_worst]; simp) ?_
  unfold C.surdref10_worst R.surdref10_worst
  by_cases g1 : e = 3
  · have ew : worstE e f = 3 := by unfold worstE; rw [if_pos (.inl g1)]
    rw [ew]
    refine zRF g1 ?_
    (first | omega | rfl | ((repeat' apply And.intro) <;> first | rfl | omega | assumption))
  by_cases g2 : f = 3
  · have ew : worstE e f = 3 := by unfold worstE; rw [if_pos (.inr g2)]
    rw [ew]
    refine zRF (jn g1 g2) ?_
    (first | omega | rfl | ((repeat' apply And.intro) <;> first | rfl | omega | assumption))
  by_cases g3 : e = 0
  · have ew : worstE e f = f := by unfold worstE; rw [if_neg (by omega), if_neg (by omega)]
    rw [ew]
    subst g3
    refine zRF g2 ?_
    (first | omega | rfl | ((repeat' apply And.intro) <;> first | rfl | omega | assumption))
  · have ew : worstE e f = e := by unfold worstE; rw [if_neg (by omega), if_pos g3]
    rw [ew]
    refine zRF (jn g1 (jn g2 g3)) ?_
    (first | omega | rfl | ((repeat' apply And.intro) <;> first | rfl | omega | assumption))
abbrev fsV (t u : Tok) (a b : Dy) : V := .agg [bv a.neg, nats t (digs 4294967296 a.m), iv a.e, bv b.neg, nats u (digs 4294967296 b.m), iv b.e]
theorem rtold10_spec (t u : Tok) (x y : Dy) (c : Nat) (hx : RNum x) (hy : RNum y) : VSpec Tryz.prog F.surdref10_Told c [fsV t u x y] (fun r _ => ∃ tk uk, r = .tup [fsV tk uk (ansL x y) (ansH x y), iv (ansE x y)]) := by
  refine spec_mk hm E.surdref10_Told B.surdref10_Told K.surdref10_Told Q.surdref10_Told (by rw [N.surdref10_Told]; simp) ?_
  unfold C.surdref10_Told R.surdref10_Told
  refine zR ?_
  refine s_call (rtold_spec t x (c + 2) hx) wS ?_
  rintro v c1 hc1 ⟨t1, rfl⟩
  refine zR ?_
  refine s_call (rtold_spec u y (c1 + 1) hy) wS ?_
  rintro v c2 hc2 ⟨t2, rfl⟩
  refine zR ?_
  refine s_call (rworst_spec (tE x) (tE y) (c2 + 1)) wS ?_
  rintro v c3 hc3 rfl
  have ee : worstE (tE x) (tE y) = ansE x y := rfl
  rw [ee]
  by_cases g : ansE x y = 0
  · have e1 : ansL x y = x := if_pos g
    have e2 : ansH x y = y := if_pos g
    rw [e1, e2]
    refine zRF g ?_
    exact ⟨t, u, rfl⟩
  · have e1 : ansL x y = dy0 := if_neg g
    have e2 : ansH x y = dy0 := if_neg g
    rw [e1, e2]
    refine zRF g ?_
    refine s_call (rworst_spec (tE x) (tE y) c3) wS ?_
    rintro v c4 hc4 rfl
    rw [ee]
    refine zR ?_
    exact ⟨.nil, .nil, rfl⟩
end Go.Proofs.YtplofcianjnkmaaGreatDoor
set_option linter.unusedSimpArgs false
set_option linter.unusedVariables false
set_option maxRecDepth 100000
set_option maxHeartbeats 8000000
namespace Go.Proofs.YtplofcianjnkmaaGreatDoor
open Go.VM

theorem cmp06_spec (t u : Tok) (neg : Bool) (m n c : Nat) (hmb : bl m ≤ 68719476736) (hn : bl n ≤ 68719476736) : VSpec Tryz.prog F.surdref06_Cmp c [zV t neg m, zV u neg n] (fun r _ => r = iv (if neg = true then - cmpI m n else cmpI m n)) := by
  refine spec_mk hm E.surdref06_Cmp B.surdref06_Cmp K.surdref06_Cmp Q.surdref06_Cmp (by rw [N.surdref06_Cmp]; simp) ?_
  unfold C.surdref06_Cmp R.surdref06_Cmp
  have h3 := cmpI_cases m n
  cases neg
  · refine zR ?_
    refine s_call (cmpR t u m n (c + 1 + 1) hmb hn) wS ?_
    rintro v c1 hc1 rfl
    refine zR ?_
    (first | omega | rfl | ((repeat' apply And.intro) <;> first | rfl | omega | assumption))
  · refine zR ?_
    refine s_call (cmpR t u m n (c + 1 + 1) hmb hn) wS ?_
    rintro v c1 hc1 rfl
    generalize cmpI m n = q at *
    refine zRF @n_neg' ?_
    (first | omega | rfl | ((repeat' apply And.intro) <;> first | rfl | omega | assumption))
theorem shift06_spec (t : Tok) (neg : Bool) (m k c : Nat) (hmb : bl m ≤ 68719476736) (hmz : m ≠ 0) (hk : k ≤ 1099511627776) (hb : bl (m * 2 ^ k) ≤ 68719476736) : VSpec Tryz.prog F.surdref06_Shift c [zV t neg m, iv (k : Int)] (fun r _ => ∃ tk, r = zV tk neg (m * 2 ^ k)) := by
  refine spec_mk hm E.surdref06_Shift B.surdref06_Shift K.surdref06_Shift Q.surdref06_Shift (by rw [N.surdref06_Shift]; simp) ?_
  unfold C.surdref06_Shift R.surdref06_Shift
  have g : (0 : Int) ≤ (k : Int) := by omega
  refine zRF g ?_
  refine s_call (shlR t m k (c + 2) hmb (Nat.pos_of_ne_zero hmz) hk) wS ?_
  rintro v c1 hc1 ⟨i, rfl, _, _⟩
  refine zR ?_
  refine s_call (make1_spec neg (.id i) (m * 2 ^ k) c1 hb) wS ?_
  rintro v c2 hc2 rfl
  have e : zneg neg (m * 2 ^ k) = neg := by
    unfold zneg
    have : ¬ m * 2 ^ k = 0 := Nat.mul_ne_zero hmz (Nat.ne_of_gt (Nat.two_pow_pos k))
    rw [decide_eq_false this]
    simp
  rw [e]
  refine zR ?_
  exact ⟨_, rfl⟩

theorem rcmp_spec (tx ty : Tok) (x y : Dy) (c : Nat) (hx : RNum x) (hy : RNum y) : VSpec Tryz.prog F.surdref08_Cmp c [fV tx x, fV ty y] (fun r _ => r = iv (cmpD x y)) := by
  refine spec_mk hm E.surdref08_Cmp B.surdref08_Cmp K.surdref08_Cmp Q.surdref08_Cmp (by rw [N.surdref08_Cmp]; simp) ?_
  unfold C.surdref08_Cmp R.surdref08_Cmp
  have x1 := hx.lo
  have x2 := hx.hi
  have y1 := hy.lo
  have y2 := hy.hi
  have bx2 := hx.bits
  have by2 := hy.bits
  refine zR ?_
  refine s_call (zsign_spec x.neg tx x.m (c + 1 + 1) hx.bits hx.nz) wS ?_
  rintro v c1 hc1 rfl
  refine zR ?_
  refine s_call (zsign_spec y.neg ty y.m c1 hy.bits hy.nz) wS ?_
  rintro v c2 hc2 rfl
  rw [sgW_dy, sgW_dy]
  by_cases g0 : x.sg = y.sg
  · by_cases g3 : x.sg = 0
    · have ec : cmpD x y = 0 := by unfold cmpD; rw [if_neg (by omega), if_neg (by omega), if_pos g3]
      rw [ec]
      have g4 : y.sg = 0 := by omega
      refine zRF (jn g3 g4) ?_
      (first | omega | rfl | ((repeat' apply And.intro) <;> first | rfl | omega | assumption))
    have ec : cmpD x y = if x.top < y.top then -x.sg else if y.top < x.top then x.sg else x.sg * cmpI (x.m * 2 ^ (x.e - y.e).toNat) (y.m * 2 ^ (y.e - x.e).toNat) := by
      unfold cmpD; rw [if_neg (by omega), if_neg (by omega), if_neg g3]
    have hxm : x.m ≠ 0 := fun e => g3 (by unfold Dy.sg; rw [if_pos e])
    have hym : y.m ≠ 0 := fun e => by
      have : y.sg = 0 := by unfold Dy.sg; rw [if_pos e]
      omega
    have hsx := sg_sign hxm
    have hsy := sg_sign hym
    have hneg : y.neg = x.neg := by
      rw [hsx, hsy] at g0
      cases hx0 : x.neg <;> cases hy0 : y.neg <;> simp [hx0, hy0] at g0 ⊢
    have hs : x.sg = 1 ∨ x.sg = -1 := by rcases sg_cases x with ⟨_, h⟩ | ⟨_, _, h⟩ | ⟨_, _, h⟩ <;> omega
    have bx := bl_pos (Nat.pos_of_ne_zero hxm)
    have by' := bl_pos (Nat.pos_of_ne_zero hym)
    generalize cmpD x y = R at *
    rw [← g0]
    generalize hsv : x.sg = s at *
    refine zRF g3 ?_
    refine s_call (rtop_spec tx x c2 hx) wS ?_
    rintro v c3 hc3 rfl
    refine zR ?_
    refine s_call (rtop_spec ty y c3 hy) wS ?_
    rintro v c4 hc4 rfl
    by_cases g4 : x.top = y.top
    · have e4 : x.e + (bl x.m : Int) = y.e + (bl y.m : Int) := by unfold Dy.top at g4; omega
      rw [if_neg (by omega), if_neg (by omega)] at ec
      by_cases g5 : x.e ≤ y.e
      · obtain ⟨k, hk⟩ : ∃ k : Nat, y.e - x.e = (k : Int) := ⟨(y.e - x.e).toNat, by omega⟩
        rw [show (x.e - y.e).toNat = 0 by omega, show (y.e - x.e).toNat = k by omega, Nat.pow_zero, Nat.mul_one, hsx] at ec
        refine zRF (jn g4 (jn g5 hk)) ?_
        refine s_call (shift06_spec ty y.neg y.m k c4 hy.bits hym (by omega) (by rw [bl_shl hym]; omega)) wS ?_
        rintro v c5 hc5 ⟨t5, rfl⟩
        rw [hneg]
        refine zR ?_
        refine s_call (cmp06_spec tx t5 x.neg x.m (y.m * 2 ^ k) c5 hx.bits (by rw [bl_shl hym]; omega)) wS ?_
        rintro v c6 hc6 rfl
        have ec2 : R = if x.neg = true then - cmpI x.m (y.m * 2 ^ k) else cmpI x.m (y.m * 2 ^ k) := by rw [ec]; split <;> omega
        rw [← ec2]
        refine zR ?_
        (first | omega | rfl | ((repeat' apply And.intro) <;> first | rfl | omega | assumption))
      · obtain ⟨k, hk⟩ : ∃ k : Nat, x.e - y.e = (k : Int) := ⟨(x.e - y.e).toNat, by omega⟩
        rw [show (x.e - y.e).toNat = k by omega, show (y.e - x.e).toNat = 0 by omega, Nat.pow_zero, Nat.mul_one, hsx] at ec
        refine zRF (jn g4 (jn g5 hk)) ?_
        refine s_call (shift06_spec tx x.neg x.m k c4 hx.bits hxm (by omega) (by rw [bl_shl hxm]; omega)) wS ?_
        rintro v c5 hc5 ⟨t5, rfl⟩
        refine zRF hneg ?_
        refine s_call (cmp06_spec t5 ty x.neg (x.m * 2 ^ k) y.m c5 (by rw [bl_shl hxm]; omega) hy.bits) (wSF hneg) ?_
        rintro v c6 hc6 rfl
        have ec2 : R = if x.neg = true then - cmpI (x.m * 2 ^ k) y.m else cmpI (x.m * 2 ^ k) y.m := by rw [ec]; split <;> omega
        rw [← ec2]
        refine zR ?_
        (first | omega | rfl | ((repeat' apply And.intro) <;> first | rfl | omega | assumption))
    · refine zRF g4 ?_
      refine s_call (rtop_spec tx x c4 hx) wS ?_
      rintro v c5 hc5 rfl
      refine zR ?_
      refine s_call (rtop_spec ty y c5 hy) wS ?_
      rintro v c6 hc6 rfl
      by_cases g5 : x.top < y.top
      · rw [if_pos g5] at ec
        refine zRF (jn g4 (jn g5 @n_neg')) ?_
        rw [ec]
      · rw [if_neg g5, if_pos (by omega)] at ec
        refine zRF (jn g4 g5) ?_
        rw [ec]
  · by_cases g1 : x.sg < y.sg
    · have ec : cmpD x y = -1 := by unfold cmpD; rw [if_pos g1]
      rw [ec]
      refine zRF (jn g0 g1) ?_
      (first | omega | rfl | ((repeat' apply And.intro) <;> first | rfl | omega | assumption))
    · have ec : cmpD x y = 1 := by unfold cmpD; rw [if_neg g1, if_pos (by omega)]
      rw [ec]
      refine zRF (jn g0 g1) ?_
      (first | omega | rfl | ((repeat' apply And.intro) <;> first | rfl | omega | assumption))
end Go.Proofs.YtplofcianjnkmaaGreatDoor
set_option linter.unusedSimpArgs false
set_option linter.unusedVariables false
set_option maxRecDepth 100000
set_option maxHeartbeats 8000000
namespace Go.Proofs.YtplofcianjnkmaaGreatDoor
open Go.VM

theorem dyOf_zneg (neg : Bool) (n : Nat) (e : Int) : dyOf (zneg neg n) n e = dyOf neg n e := by
  unfold dyOf zneg
  by_cases g : n = 0
  · rw [if_pos g, if_pos g]
  · rw [if_neg g, if_neg g, decide_eq_false g]
    simp
theorem zneg_zero {neg : Bool} {n : Nat} (h : n = 0) : zneg neg n = false := by unfold zneg; rw [decide_eq_true h]; simp
theorem dyadT (t : Tok) (a : RD) (c : Nat) (ha : a.Ok) : VSpec Tryz.prog F.surdlaw10_dyad c [rdV t a] (fun r c' => ∃ tk, r = fV tk a.d ∧ Tk c c' tk) := by
  refine spec_mk hm E.surdlaw10_dyad B.surdlaw10_dyad K.surdlaw10_dyad Q.surdlaw10_dyad (by rw [N.surdlaw10_dyad]; simp) ?_
  unfold C.surdlaw10_dyad R.surdlaw10_dyad
  have hb := ha.arg.bl
  have he := ha.fit
  unfold fitE at he
  refine zR ?_
  refine s_call (of06_spec a.neg t a.l (c + 1 + 1) ha.arg) wS ?_
  rintro v c1 hc1 ⟨tk, rfl⟩
  refine zR ?_
  refine s_call (of08T (zneg a.neg (val 18446744073709551616 a.l)) tk (val 18446744073709551616 a.l) a.e c1 (by omega) zneg_zero (by omega) (by omega)) wS ?_
  rw [dyOf_zneg]
  rintro v c2 hc2 ⟨tk2, rfl, htk⟩
  refine zR ?_
  exact ⟨tk2, rfl, htk.mono (by omega) (by omega)⟩
def okL (f : Int) (d : Dy) : Dy := if f = 0 then d else dy0
theorem ofST (t u : Tok) (a b : RD) (c : Nat) (ha : Arg a.l) (hb : Arg b.l) : VSpec Tryz.prog F.surdlaw10_of c [rsV t u a b] (fun r c' => ∃ tk uk, r = .tup [fsV tk uk (okL (chkE a b) a.d) (okL (chkE a b) b.d), iv (chkE a b)] ∧ Tk c c' tk ∧ Tk c c' uk) := by
  refine spec_mk hm E.surdlaw10_of B.surdlaw10_of K.surdlaw10_of Q.surdlaw10_of (by rw [N.surdlaw10_of]; simp) ?_
  unfold C.surdlaw10_of R.surdlaw10_of
  refine zR ?_
  refine s_call (fits_spec' a.e (c + 1 + 1)) wS ?_
  rintro v c1 hc1 rfl
  by_cases h1 : fitE a.e
  · refine zRF h1 ?_
    refine s_call (fits_spec' b.e c1) wS ?_
    rintro v c2 hc2 rfl
    by_cases h2 : fitE b.e
    · have oa : a.Ok := ⟨ha, h1⟩
      have ob : b.Ok := ⟨hb, h2⟩
      have e1 : chkE a b = if 0 < cmpD a.d b.d then 100 else 0 := by unfold chkE; rw [if_pos ⟨h1, h2⟩]
      refine zRF (jn h1 h2) ?_
      refine s_call (dyadT t a c2 oa) wS ?_
      rintro v c3 hc3 ⟨tk, rfl, htk⟩
      refine zRF (jn h1 h2) ?_
      refine s_call (dyadT u b c3 ob) wS ?_
      rintro v c4 hc4 ⟨uk, rfl, huk⟩
      refine zRF (jn h1 (jn h2 @nb_app)) ?_
      refine s_call (rcmp_spec tk uk a.d b.d (c4 + 1) oa.num.r ob.num.r) wS ?_
      rintro v c5 hc5 rfl
      by_cases g : 0 < cmpD a.d b.d
      · rw [if_pos g] at e1
        rw [e1]
        refine zRF g ?_
        exact ⟨.nil, .nil, rfl, .inl rfl, .inl rfl⟩
      · rw [if_neg g] at e1
        rw [e1]
        refine zRF g ?_
        exact ⟨tk, uk, rfl, htk.mono (by omega) (by omega), huk.mono (by omega) (by omega)⟩
    · have e1 : chkE a b = 80 := by unfold chkE; rw [if_neg fun h => h2 h.2]
      rw [e1]
      refine zRF (jn h1 h2) ?_
      exact ⟨.nil, .nil, rfl, .inl rfl, .inl rfl⟩
  · have e1 : chkE a b = 80 := by unfold chkE; rw [if_neg fun h => h1 h.1]
    rw [e1]
    refine zRF h1 ?_
    exact ⟨.nil, .nil, rfl, .inl rfl, .inl rfl⟩
theorem num10_spec (n : Int) (c : Nat) : VSpec Tryz.prog F.surdlaw10_num c [iv n] (fun r _ => r = iv n) := by
  refine spec_mk hm E.surdlaw10_num B.surdlaw10_num K.surdlaw10_num Q.surdlaw10_num (by rw [N.surdlaw10_num]; simp) ?_
  unfold C.surdlaw10_num R.surdlaw10_num
  refine xR ?_
  exact Nat.le_refl _
theorem zis_spec (t u : Tok) (d : Dy) (neg : Bool) (l : List Nat) (c : Nat) (hb : bl d.m ≤ 68719476736) (hneg : d.neg = neg) (hl : l = digs 18446744073709551616 d.m) : VSpec Tryz.prog F.surdref06_Z_Is c [zV t d.neg d.m, bv neg, nats u l] (fun r _ => r = bv true) := by
  refine spec_mk hm E.surdref06_Z_Is B.surdref06_Z_Is K.surdref06_Z_Is Q.surdref06_Z_Is (by rw [N.surdref06_Z_Is]; simp) ?_
  unfold C.surdref06_Z_Is R.surdref06_Z_Is
  subst hneg hl
  refine zR ?_
  refine s_call (is_spec t u d.m (digs 18446744073709551616 d.m) (c + 1) (Nat.le_trans (digs32_len hb) (by decide)) (by have := digs_len_bl (m := d.m) (k := 1073741824) (by omega); omega)) wS ?_
  rintro v c1 hc1 rfl
  refine zR ?_
  (first | omega | rfl | ((repeat' apply And.intro) <;> first | rfl | omega | assumption))
theorem dis_spec (t u : Tok) (d : Dy) (x : RD) (c : Nat) (hb : bl d.m ≤ 68719476736) (hx : x = RD.of d) : VSpec Tryz.prog F.surdref08_D_Is c [fV t d, bv x.neg, nats u x.l, iv x.e] (fun r _ => r = bv true) := by
  refine spec_mk hm E.surdref08_D_Is B.surdref08_D_Is K.surdref08_D_Is Q.surdref08_D_Is (by rw [N.surdref08_D_Is]; simp) ?_
  unfold C.surdref08_D_Is R.surdref08_D_Is
  subst hx
  refine zR ?_
  refine s_call (zis_spec t u d d.neg (digs 18446744073709551616 d.m) (c + 1) hb rfl rfl) wSr ?_
  rintro v c1 hc1 rfl
  have e : (RD.of d).e = d.e := rfl
  refine zRF e ?_
  (first | omega | rfl | ((repeat' apply And.intro) <;> first | rfl | omega | assumption))
theorem alk_bad (t u tk uk : Tok) (f : Int) (x y : Dy) (c : Nat) (hf : f ≠ 0) : VSpec Tryz.prog F.surdlaw10_alike c [rsV t u rd0 rd0, iv f, fsV tk uk x y, iv f] (fun r _ => r = bv true) := by
  refine spec_mk hm E.surdlaw10_alike B.surdlaw10_alike K.surdlaw10_alike Q.surdlaw10_alike (by rw [N.surdlaw10_alike]; simp) ?_
  unfold C.surdlaw10_alike R.surdlaw10_alike
  have e1 : rd0.neg = false := rfl
  have e2 : rd0.l = [] := rfl
  have e3 : rd0.e = 0 := rfl
  have e4 : nats t [] = V.sl t 1 [] := rfl
  refine zRF (jn hf (jn e1 (jn e2 e3))) ?_
  refine s_call (num10_spec f (c + 1 + 1)) wS ?_
  rintro v c1 hc1 rfl
  (repeat (first | refine v_reg ?_ | refine v_last ?_ | refine vwp_seq ?_ | refine vwp_block ?_ | refine vwp_skip ?_ | refine vwp_exit ?_ | refine vwp_ret ?_ | refine v_cond ?_ | simp (maxSteps := 4000000) (disch := omega) only [vm, ite_true, ite_false, eq_self, reduceIte, Nat.reduceEqDiff, Option.map, vst, List.length_cons, List.length_nil, List.set_cons_zero, List.set_cons_succ, List.map_cons, List.map_nil, Option.map_some, Option.bind_some, Nat.reduceAdd, Nat.reduceLT, Nat.reduceLeDiff, Nat.add_zero, and_self, k_ne, Nat.add_left_cancel_iff, ne_eq, Int.reduceEq, Int.reduceLT, Int.reduceLE, List.cons_append, List.nil_append, Nat.reduceDiv, Nat.reduceMul, Int.reduceToNat, Int.reduceAdd, Int.cast_ofNat_Int, hf, e1, e2, e3, l_nil, List.map_nil] | refine And.intro (by omega) ?_))
  (first | omega | rfl | ((repeat' apply And.intro) <;> first | rfl | omega | assumption))
theorem alk_ok (t u tk uk : Tok) (x y : Dy) (c : Nat) (hx : RNum x) (hy : RNum y) : VSpec Tryz.prog F.surdlaw10_alike c [rsV t u (RD.of (ansL x y)) (RD.of (ansH x y)), iv (ansE x y), fsV tk uk x y, iv 0] (fun r _ => r = bv true) := by
  refine spec_mk hm E.surdlaw10_alike B.surdlaw10_alike K.surdlaw10_alike Q.surdlaw10_alike (by rw [N.surdlaw10_alike]; simp) ?_
  unfold C.surdlaw10_alike R.surdlaw10_alike
  refine zR ?_
  refine s_call (rtold10_spec tk uk x y (c + 1 + 1) hx hy) wS ?_
  rintro v c1 hc1 ⟨tk2, uk2, rfl⟩
  by_cases g : ansE x y = 0
  · have e1 : ansL x y = x := if_pos g
    have e2 : ansH x y = y := if_pos g
    rw [e1, e2, g]
    refine zR ?_
    refine s_call (num10_spec 0 c1) wS ?_
    rintro v c2 hc2 rfl
    refine zR ?_
    refine s_call (dis_spec tk2 t x (RD.of x) c2 hx.bits rfl) wS ?_
    rintro v c3 hc3 rfl
    refine zR ?_
    refine s_call (dis_spec uk2 u y (RD.of y) c3 hy.bits rfl) wS ?_
    rintro v c4 hc4 rfl
    refine zR ?_
    (first | omega | rfl | ((repeat' apply And.intro) <;> first | rfl | omega | assumption))
  · have e1 : ansL x y = dy0 := if_neg g
    have e2 : ansH x y = dy0 := if_neg g
    have e3 : RD.of dy0 = rd0 := rfl
    rw [e1, e2, e3]
    have e1 : rd0.neg = false := rfl
    have e2 : rd0.l = [] := rfl
    have e3 : rd0.e = 0 := rfl
    generalize ansE x y = f at *
    refine zRF (jn g (jn e1 (jn e2 e3))) ?_
    refine s_call (num10_spec f c1) wS ?_
    rintro v c2 hc2 rfl
    (repeat (first | refine v_reg ?_ | refine v_last ?_ | refine vwp_seq ?_ | refine vwp_block ?_ | refine vwp_skip ?_ | refine vwp_exit ?_ | refine vwp_ret ?_ | refine v_cond ?_ | simp (maxSteps := 4000000) (disch := omega) only [vm, ite_true, ite_false, eq_self, reduceIte, Nat.reduceEqDiff, Option.map, vst, List.length_cons, List.length_nil, List.set_cons_zero, List.set_cons_succ, List.map_cons, List.map_nil, Option.map_some, Option.bind_some, Nat.reduceAdd, Nat.reduceLT, Nat.reduceLeDiff, Nat.add_zero, and_self, k_ne, Nat.add_left_cancel_iff, ne_eq, Int.reduceEq, Int.reduceLT, Int.reduceLE, List.cons_append, List.nil_append, Nat.reduceDiv, Nat.reduceMul, Int.reduceToNat, Int.reduceAdd, Int.cast_ofNat_Int, g, e1, e2, e3, l_nil, List.map_nil] | refine And.intro (by omega) ?_))
    (first | omega | rfl | ((repeat' apply And.intro) <;> first | rfl | omega | assumption))

end Go.Proofs.YtplofcianjnkmaaGreatDoor
set_option linter.unusedSimpArgs false
set_option linter.unusedVariables false
set_option maxRecDepth 100000
set_option maxHeartbeats 8000000
namespace Go.Proofs.YtplofcianjnkmaaGreatDoor
open Go.VM Go.RowKit

def Row1 (lo hi : Nat) (t : Tok) (l : List Nat) : Prop := (t = .nil ∧ l = []) ∨ ∃ i, t = .id i ∧ lo ≤ i ∧ i < hi
theorem Row1.mono {a b c d : Nat} {t : Tok} {l : List Nat} (h : Row1 a b t l) (h1 : c ≤ a) (h2 : b ≤ d) : Row1 c d t l := by
  rcases h with h | ⟨i, h, h3, h4⟩
  · exact .inl h
  · exact .inr ⟨i, h, by omega, by omega⟩
theorem Row1.of {a b : Nat} {t : Tok} {l : List Nat} (h : Tk a b t) (hl : t = .nil → l = []) : Row1 a b t l := by
  rcases h with rfl | ⟨i, rfl, h⟩
  · exact .inl ⟨rfl, hl rfl⟩
  · exact .inr ⟨i, rfl, h⟩
theorem nodup_nodupB : ∀ {l : List Nat}, l.Nodup → nodupB l = true
  | [], _ => rfl
  | a :: r, h => by
    obtain ⟨h1, h2⟩ := List.nodup_cons.1 h
    simp only [nodupB, Bool.and_eq_true, Bool.not_eq_true', List.contains_eq_mem, decide_eq_false_iff_not]
    exact ⟨h1, nodup_nodupB h2⟩

abbrev rowsV (ps : List (Tok × List Nat)) : List V := ps.map fun p => nats p.1 p.2
theorem mem_ids {ps : List (Tok × List Nat)} {i : Nat} (h : i ∈ ids (rowsV ps)) : ∃ p ∈ ps, p.1 = .id i := by
  obtain ⟨x, hx, e⟩ := List.mem_filterMap.1 h
  obtain ⟨p, hp, rfl⟩ := List.mem_map.1 hx
  obtain ⟨t, l⟩ := p
  cases t with
  | id j => simp at e; subst e; exact ⟨_, hp, rfl⟩
  | _ => simp at e
theorem ids_nodup : ∀ {ps : List (Tok × List Nat)}, ps.Pairwise (fun p q => Apt p.1 q.1) → (ids (rowsV ps)).Nodup
  | [], _ => List.nodup_nil
  | (t, l) :: ps, h => by
    obtain ⟨h1, h2⟩ := List.pairwise_cons.1 h
    have ih := ids_nodup h2
    cases t with
    | id j =>
      refine List.nodup_cons.2 ⟨fun hm0 => ?_, ih⟩
      obtain ⟨q, hq, e⟩ := mem_ids hm0
      exact h1 q hq j rfl e
    | nil => exact ih
    | unk => exact ih
    | sub j => exact ih
theorem ownable_of {c0 lo tL : Nat} {ps : List (Tok × List Nat)} (hc : c0 ≤ lo) (h0 : 0 < ps.length) (h1 : ps.length ≤ 1000000) (hp : ∀ p ∈ ps, Row1 lo tL p.1 p.2 ∧ p.2.length ≤ 4398046511104) (hl : lo ≤ tL) (ha : ps.Pairwise (fun p q => Apt p.1 q.1)) : ownable c0 tL (rowsV ps) = true := by
  simp only [ownable, Bool.and_eq_true, decide_eq_true_eq, List.all_eq_true]
  have hid : ∀ i ∈ ids (rowsV ps), lo ≤ i ∧ i < tL := fun i hi => by
    obtain ⟨p, hpm, e⟩ := mem_ids hi
    rcases (hp p hpm).1 with ⟨e1, _⟩ | ⟨j, e1, h3, h4⟩
    · rw [e] at e1; cases e1
    · rw [e] at e1; cases e1; exact ⟨h3, h4⟩
  refine ⟨⟨⟨⟨by simpa using h0, by simpa using h1⟩, fun x hx => ?_⟩, fun t ht => ?_⟩, nodup_nodupB (List.nodup_cons.2 ⟨fun h => ?_, ids_nodup ha⟩)⟩
  · obtain ⟨p, hpm, rfl⟩ := List.mem_map.1 hx
    obtain ⟨t, l⟩ := p
    obtain ⟨h2, h3⟩ := hp _ hpm
    rcases h2 with ⟨e1, e2⟩ | ⟨i, e1, _⟩
    · simp only at e1 e2; subst e1 e2; rfl
    · simp only at e1 h3; subst e1
      simp [rowable, h3]
  · rcases List.mem_cons.1 ht with rfl | h
    · omega
    · have := hid t h; omega
  · have := hid tL h; omega

section
variable {P : Program} {c0 : Nat} {ρ : Nat → V} {c i : Nat} {r : List VO} {K : VS → Prop}
variable {σ : Nat → Option Blk} {dr : Bool}
end

end Go.Proofs.YtplofcianjnkmaaGreatDoor
set_option linter.unusedSimpArgs false
set_option linter.unusedVariables false
set_option maxRecDepth 100000
set_option maxHeartbeats 8000000
namespace Go.VM
open Go.RowKit

theorem giv_mk {P : Program} (hm : P.follows .mixedOrders = true) {f : FuncId} {fn : Func} {code : Code} {vc : VC} {rs : List VRes} (hf : P.funcs[f]? = some fn) (hb : fn.body = some code) (hvc : resCode P fn.ntmps code = vc) (hrs : resResults P fn.results.toList = some rs)
    {n : Nat} {x : V} (hn : 1 ≤ fn.ntmps) (h : VWP P 0 vc (retQ rs fun r _ => r = bv true) ⟨start [x], noBlk, n⟩) : GivSpec P f n x := by
  obtain ⟨e, S', he, hq⟩ := h
  have key : ∀ r, vresult S' rs = some r → r = bv true → (e = .ret ∨ e = .normal) → GivSpec P f n x := fun r hr hv he' => by
    subst hv
    exact ⟨noBlk, S'.c, vcallsG_of_exec hm hf hb hvc hrs (by simpa using hn) he he' hr (fun t k h => by cases h) (fun t h => absurd rfl h)⟩
  cases e with
  | normal => rw [retQ_normal] at hq; obtain ⟨r, hr, h1⟩ := hq; exact key r hr h1 (.inr rfl)
  | ret => rw [retQ_ret] at hq; obtain ⟨r, hr, h1⟩ := hq; exact key r hr h1 (.inl rfl)
  | exit id => unfold retQ at hq; exact hq.elim
def renT (us : List Nat) : Tok → Tok | .id t => .id (us.idxOf t) | t => t
theorem rep_row {us : List Nat} {w : World} {M M' : Nat → Prop} {μ μ' : Nat → Nat} {c : Nat} (hM : ∀ b, M b → M' b) (hμ : ∀ s, s < us.length → μ' s = μ (us.getD s 0)) {t : Tok} {l : List Nat} {v : Value} (ht : t = .nil ∨ ∃ i, t = .id i ∧ i ∈ us)
    (h : Rep w M μ c (nats t l) v) : Rep w M' μ' us.length (nats (renT us t) l) v := by
  generalize hx : nats t l = x at h
  cases h with
  | any | lit | agg | tup => cases hx
  | nil tk sz =>
    simp only [nats, V.sl.injEq] at hx
    obtain ⟨rfl, rfl, hx⟩ := hx
    show Rep w M' μ' us.length (.sl (renT us t) 1 (l.map nv)) _
    rw [hx]
    exact .nil _ 1
  | sl tk sz n cap a l' vs htk hn hc hs hMb hcap h1 hl =>
    simp only [nats, V.sl.injEq] at hx
    obtain ⟨rfl, rfl, rfl⟩ := hx
    refine .sl _ 1 n cap a _ vs ?_ hn hc hs (fun h => hM _ (hMb h)) hcap h1 (fun j x hx => ?_)
    · rcases ht with rfl | ⟨i, rfl, hi⟩
      · exact htk
      · intro hr
        obtain ⟨⟨q1, q2⟩, q3⟩ := htk hr
        obtain ⟨i1, i2⟩ := getD_idxOf hi
        exact ⟨⟨i1, by rw [hμ _ i1, i2]; exact q2⟩, q3⟩
    · rw [List.getElem?_map] at hx
      obtain ⟨y, hy, rfl⟩ := Option.map_eq_some_iff.1 hx
      have := hl j (nv y) (by rw [List.getElem?_map, hy]; rfl)
      generalize vs j = u at this
      cases this
      exact .lit _

section
variable {P : Program} {c0 : Nat} {ρ : Nat → V} {σ : Nat → Option Blk} {c i : Nat} {r : List VO} {K : VS → Prop} {d : Option Nat}
theorem s_appNilR {bytes : Nat} {z : List Value} {x y : X} {tk : Tok} {ys : List V} (hx : x.ev ρ = .sl .nil 1 []) (hy : y.ev ρ = .sl tk 1 ys) (h0 : 0 < ys.length) (h2 : ys.length * bytes ≤ 281474976710656) (h3 : ys.length ≤ 4611686018427387904)
    (hk : wps P false c0 r ⟨upd ρ i (.buf c 0 ys.length none 1), supd σ c (some ⟨ys, true⟩), c + 1⟩ K) : wps P false c0 (⟨some i, .app 1 bytes z x y, none⟩ :: r) ⟨ρ, σ, c⟩ K := by
  have hc : vcells 1 σ (y.ev ρ) = some ys := by rw [hy]; cases tk <;> rfl
  exact s_eff rfl (by intros; exact fun h => by cases h) (by intros; exact fun h => by cases h) ⟨_, _, _, none, .appNil hx hc (k := ys.length) (by omega) h0 h2 h3, hk⟩
theorem s_appR {bytes t n : Nat} {z : List Value} {x y : X} {tk : Tok} {ys cs : List V} (hx : x.ev ρ = .buf t 0 n none 1) (ht : σ t = some ⟨cs, true⟩) (ht0 : c0 ≤ t) (hy : y.ev ρ = .sl tk 1 ys) (h1 : n ≤ cs.length) (h2 : (2 * (n + ys.length)) * bytes ≤ 281474976710656) (h3 : n + ys.length ≤ 4611686018427387904)
    (hk : wps P false c0 r ⟨upd (kill (some (.inl t)) ρ) i (.buf t 0 (n + ys.length) none 1), supd (killσ t σ) t (some ⟨(cs.take n ++ ys).map (killV t), true⟩), c⟩ K) : wps P false c0 (⟨some i, .app 1 bytes z x y, none⟩ :: r) ⟨ρ, σ, c⟩ K := by
  have hc : vcells 1 σ (y.ev ρ) = some ys := by rw [hy]; cases tk <;> rfl
  refine s_eff rfl (by intros; exact fun h => by cases h) (by intros; exact fun h => by cases h) ⟨_, _, _, some (.inl t), .appMove hx ht ht0 hc (k := ys.length) (by omega) (by omega) h2 h3, ?_⟩
  rw [Nat.mul_one]
  exact hk
theorem kill_ap {t j : Nat} : kill (some (.inl t)) ρ j = killV t (ρ j) := rfl
end
theorem kv_sl {t n : Nat} {tk : Tok} {l : List V} : killV t (.sl tk n l) = .sl tk n l := Eq.trans rfl rfl
theorem kv_lit {t : Nat} {v : Value} : killV t (.lit v) = .lit v := Eq.trans rfl rfl
theorem kv_rows (t : Nat) (ps : List (Tok × List Nat)) : (ps.map fun p => nats p.1 p.2).map (killV t) = ps.map fun p => nats p.1 p.2 := by
  rw [List.map_map]; rfl
end Go.VM
namespace Go.Proofs.YtplofcianjnkmaaGreatDoor
open Go.VM

structure SP where
  t : Tok
  u : Tok
  a : RD
  b : RD
abbrev SP.cells (s : SP) : List V := [bv s.a.neg, nats s.t s.a.l, iv s.a.e, bv s.b.neg, nats s.u s.b.l, iv s.b.e]
def cellsL (L : List SP) : List V := L.flatMap SP.cells
def rowsL (L : List SP) : List (Tok × List Nat) := L.flatMap fun s => [(s.t, s.a.l), (s.u, s.b.l)]
theorem cellsL_len (L : List SP) : (cellsL L).length = 6 * L.length := by
  induction L with
  | nil => rfl
  | cons s L ih => simp only [cellsL, List.flatMap_cons, List.length_append, List.length_cons, List.length_nil] at ih ⊢; omega
theorem rowsL_len (L : List SP) : (rowsL L).length = 2 * L.length := by
  induction L with
  | nil => rfl
  | cons s L ih => simp only [rowsL, List.flatMap_cons, List.length_append, List.length_cons, List.length_nil] at ih ⊢; omega
theorem cellsL_at : ∀ (L : List SP) (i : Nat) (s : SP), L[i]? = some s → vpart (cellsL L) (i * 6) (some 6) = some (.agg s.cells)
  | [], i, s, h => by simp at h
  | q :: L, 0, s, h => by
    simp at h; subst h
    have h6 : ([bv q.a.neg, nats q.t q.a.l, iv q.a.e, bv q.b.neg, nats q.u q.b.l, iv q.b.e] : List V).all V.flat = true := rfl
    simp [cellsL, vpart, SP.cells]
    exact ⟨rfl, rfl, rfl, rfl, rfl, rfl⟩
  | q :: L, i + 1, s, h => by
    have ih := cellsL_at L i s (by simpa using h)
    have e : cellsL (q :: L) = bv q.a.neg :: nats q.t q.a.l :: iv q.a.e :: bv q.b.neg :: nats q.u q.b.l :: iv q.b.e :: cellsL L := rfl
    rw [e, show (i + 1) * 6 = i * 6 + 1 + 1 + 1 + 1 + 1 + 1 by omega, vp_succ, vp_succ, vp_succ, vp_succ, vp_succ, vp_succ]
    exact ih
theorem rowsL_take {L : List SP} {i : Nat} {s : SP} (h : L[i]? = some s) : rowsL (L.take (i + 1)) = rowsL (L.take i) ++ [(s.t, s.a.l), (s.u, s.b.l)] := by
  have hi := (List.getElem?_eq_some_iff.1 h).1
  rw [List.take_succ_eq_append_getElem hi]
  have : L[i] = s := (List.getElem?_eq_some_iff.1 h).2
  rw [this]
  simp [rowsL]
theorem own10_giv (L : List SP) (hl : 0 < L.length) (hl2 : L.length ≤ 1000) (n : Nat) (hp : ∀ p ∈ rowsL L, Row1 0 n p.1 p.2 ∧ p.2.length ≤ 4398046511104) (ha : (rowsL L).Pairwise (fun p q => Apt p.1 q.1)) :
    GivSpec Tryz.prog F.surdlaw10_own n (.sl (.id 0) 6 (cellsL L)) := by
  refine giv_mk hm E.surdlaw10_own B.surdlaw10_own K.surdlaw10_own Q.surdlaw10_own (by rw [N.surdlaw10_own]; decide) ?_
  unfold C.surdlaw10_own R.surdlaw10_own
  have hcl := cellsL_len L
  have hd : (cellsL L).length / 6 = L.length := by omega
  refine zRF hd ?_
  refine v_loop (fun S => ∃ tb, n ≤ tb ∧ tb < S.c ∧ S.ρ 3 = .buf tb 0 (2 * L.length) none 1 ∧ S.σ tb = some ⟨rowsV (rowsL L), true⟩) ?_ ?_
  · refine vwp_loop (fun k S => ∃ i, k = L.length - i ∧ i ≤ L.length ∧ S.ρ 6 = .sl (.id 0) 6 (cellsL L) ∧ S.ρ 7 = iv L.length ∧ S.ρ 8 = iv i ∧ n ≤ S.c ∧ (∀ t, S.c ≤ t → S.σ t = none) ∧ ((i = 0 ∧ S.ρ 3 = nil1) ∨ (0 < i ∧ ∃ tb, n ≤ tb ∧ tb < S.c ∧ S.ρ 3 = .buf tb 0 (2 * i) none 1 ∧ S.σ tb = some ⟨rowsV (rowsL (L.take i)), true⟩))) L.length ?_ ?_
    · refine ⟨0, by omega, by omega, ?_⟩
      refine xS ?_
      (repeat' apply And.intro) <;> first | rfl | exact Nat.le_refl _ | (intros; rfl) | exact .inl trivial | exact .inl ⟨rfl, rfl⟩
    rintro k ⟨ρ, σ, c⟩ ⟨i, hk, hi, h6, h7, h8, hc, hfree, hst⟩
    dsimp only at h6 h7 h8 hc hfree hst
    by_cases g : (i : Int) < L.length
    · have hi' : i < L.length := by omega
      obtain ⟨s, hs⟩ : ∃ s, L[i]? = some s := ⟨_, List.getElem?_eq_getElem hi'⟩
      have hat := cellsL_at L i s hs
      have htk := rowsL_take hs
      have e1 : (i : Int) + 1 = ((i + 1 : Nat) : Int) := by omega
      have hlen := rowsL_len (L.take i)
      rw [List.length_take, Nat.min_eq_left (by omega)] at hlen
      rcases hst with ⟨hi0, h3⟩ | ⟨hpos, tb, hb1, hb2, h3, hσ⟩
      · refine zRF (jn h3 (jn h6 (jn h7 (jn h8 (jn g (jn hd (jn hi' hat))))))) ?_
        refine s_appNilR (tk := .id (c + 1)) (ys := [nats s.t s.a.l, nats s.u s.b.l]) wS wS (by simp) (by simp) (by simp) ?_
        refine zRF (jn h3 (jn h6 (jn h7 (jn h8 (jn g e1))))) ?_
        refine ⟨L.length - (i + 1), by omega, i + 1, by omega, by omega, rfl, by omega, fun t ht => ?_, .inr ⟨by omega, c + 1 + 1, by omega, by omega, by rw [hi0], ?_⟩⟩
        · rw [if_neg (by omega), if_neg (by omega)]
          exact hfree t (by omega)
        · rw [if_pos rfl, htk, hi0]; rfl
      · have hne : ¬ tb = c := by omega
        refine zRF (jn h3 (jn h6 (jn h7 (jn h8 (jn g (jn hd (jn hi' hat))))))) ?_
        refine s_appR (t := tb) (n := 2 * i) (tk := .id (c + 1)) (ys := [nats s.t s.a.l, nats s.u s.b.l]) (cs := rowsV (rowsL (L.take i))) wS (wSF (jn hne hσ)) (Nat.zero_le _) wS (by simp [hlen]) (by simp; omega) (by simp; omega) ?_
        have e9 : (rowsV (rowsL (L.take i))).take (2 * i) = rowsV (rowsL (L.take i)) := List.take_of_length_le (by simp [hlen])
        have e10 : (rowsV (rowsL (L.take i)) ++ [nats s.t s.a.l, nats s.u s.b.l]).map (killV tb) = rowsV (rowsL (L.take (i + 1))) := by
          rw [htk]
          have : rowsV (rowsL (L.take i)) ++ [nats s.t s.a.l, nats s.u s.b.l] = rowsV (rowsL (L.take i) ++ [(s.t, s.a.l), (s.u, s.b.l)]) := by simp [rowsV]
          rw [this]
          exact kv_rows tb _
        rw [e9, e10]
        refine zRF (jn @kill_ap (jn h3 (jn h6 (jn h7 (jn h8 (jn g (jn e1 (jn @kv_sl @kv_lit)))))))) ?_
        refine ⟨L.length - (i + 1), by omega, i + 1, by omega, by omega, rfl, by omega, fun t ht => ?_, .inr ⟨by omega, tb, by omega, by omega, rfl, ?_⟩⟩
        · rw [if_neg (by omega)]
          unfold killσ
          rw [supd_app, if_neg (by omega), hfree t (by omega)]
          rfl
        · rw [if_pos rfl]
    · have hi' : i = L.length := by omega
      subst hi'
      rcases hst with ⟨h0, _⟩ | ⟨_, tb, hb1, hb2, h3, hσ⟩
      · omega
      refine zRF (jn h3 (jn h6 (jn h7 (jn h8 g)))) ?_
      rw [List.take_length] at hσ
      exact ⟨tb, hb1, hb2, rfl, hσ⟩
  rintro ⟨ρ3, σ, c5⟩ ⟨tb, hb1, hb2, h3, hσ⟩
  dsimp only at hb1 hb2 h3 hσ
  refine vwp_freeze 3 tb 0 (2 * L.length) 1 none (rowsV (rowsL L)) (by exact h3) (by exact hσ) (Nat.zero_le _) (by simp [rowsL_len]) ?_
  have e1 : ((((rowsV (rowsL L)).drop 0).take (2 * L.length * 1)).map V.solid) = rowsV (rowsL L) := by
    rw [List.drop_zero, Nat.mul_one, List.take_of_length_le (by simp [rowsL_len]), List.map_map]
    rfl
  rw [e1]
  unfold VM.frozen
  refine zR ?_
  show opS _ _ _ (.call F.surdref01_Own [.t 24]) (some 25) _ _
  have hex : X.ev (upd (upd ρ3 3 (.sl (Tok.from 0 tb) 1 (rowsV (rowsL L)))) 24 (.sl (Tok.from 0 tb) 1 (rowsV (rowsL L)))) (.t 24) = .sl (.id tb) 1 (rowsV (rowsL L)) := rfl
  refine ⟨_, _, _, _, .own rfl own_spec hex (ownable_of (lo := 0) (ps := rowsL L) (Nat.le_refl _) (by rw [rowsL_len]; omega) (by rw [rowsL_len]; omega) (fun p hp' => ⟨(hp p hp').1.mono (Nat.le_refl _) hb1, (hp p hp').2⟩) (Nat.zero_le _) ha), ?_⟩
  (repeat (first | refine v_reg ?_ | refine v_last ?_ | refine vwp_seq ?_ | refine vwp_block ?_ | refine vwp_skip ?_ | refine vwp_exit ?_ | refine vwp_ret ?_ | refine v_cond ?_ | simp (maxSteps := 4000000) (disch := omega) only [vm, ite_true, ite_false, eq_self, reduceIte, Nat.reduceEqDiff, Option.map, vst, List.length_cons, List.length_nil, List.set_cons_zero, List.set_cons_succ, List.map_cons, List.map_nil, Option.map_some, Option.bind_some, Nat.reduceAdd, Nat.reduceLT, Nat.reduceLeDiff, Nat.add_zero, and_self, k_ne, Nat.add_left_cancel_iff, ne_eq, Int.reduceEq, Int.reduceLT, Int.reduceLE, List.cons_append, List.nil_append, Nat.reduceDiv, Nat.reduceMul, Int.reduceToNat, Int.reduceAdd, Int.cast_ofNat_Int] | refine And.intro (by omega) ?_))
end Go.Proofs.YtplofcianjnkmaaGreatDoor
set_option linter.unusedSimpArgs false
set_option linter.unusedVariables false
set_option maxRecDepth 100000
set_option maxHeartbeats 8000000
namespace Go.Proofs.YtplofcianjnkmaaGreatDoor
open Go.VM Go.RowKit

def renSP (us : List Nat) (s : SP) : SP := ⟨renT us s.t, renT us s.u, s.a, s.b⟩
theorem rowsL_ren (us : List Nat) (L : List SP) : rowsL (L.map (renSP us)) = (rowsL L).map fun p => (renT us p.1, p.2) := by
  induction L with
  | nil => rfl
  | cons s L ih =>
    have e : ∀ (s : SP) (L : List SP), rowsL (s :: L) = (s.t, s.a.l) :: (s.u, s.b.l) :: rowsL L := fun s L => rfl
    rw [List.map_cons, e, e, ih]
    rfl
theorem cellsL_ren {us : List Nat} : ∀ (L : List SP) (j : Nat) (y : V), (cellsL (L.map (renSP us)))[j]? = some y →
    ∃ x, (cellsL L)[j]? = some x ∧ ((∃ v, x = .lit v ∧ y = .lit v) ∨ ∃ p ∈ rowsL L, x = nats p.1 p.2 ∧ y = nats (renT us p.1) p.2)
  | [], j, y, h => by simp [cellsL] at h
  | s :: L, j, y, h => by
    have e1 : cellsL (s :: L) = bv s.a.neg :: nats s.t s.a.l :: iv s.a.e :: bv s.b.neg :: nats s.u s.b.l :: iv s.b.e :: cellsL L := rfl
    have e2 : cellsL ((s :: L).map (renSP us)) = bv s.a.neg :: nats (renT us s.t) s.a.l :: iv s.a.e :: bv s.b.neg :: nats (renT us s.u) s.b.l :: iv s.b.e :: cellsL (L.map (renSP us)) := rfl
    have e3 : rowsL (s :: L) = (s.t, s.a.l) :: (s.u, s.b.l) :: rowsL L := rfl
    rw [e2] at h
    rw [e1, e3]
    match j, h with
    | 0, h => simp at h; subst h; exact ⟨_, rfl, .inl ⟨_, rfl, rfl⟩⟩
    | 1, h => simp at h; subst h; exact ⟨_, rfl, .inr ⟨_, List.mem_cons_self, rfl, rfl⟩⟩
    | 2, h => simp at h; subst h; exact ⟨_, rfl, .inl ⟨_, rfl, rfl⟩⟩
    | 3, h => simp at h; subst h; exact ⟨_, rfl, .inl ⟨_, rfl, rfl⟩⟩
    | 4, h => simp at h; subst h; exact ⟨_, rfl, .inr ⟨_, List.mem_cons_of_mem _ List.mem_cons_self, rfl, rfl⟩⟩
    | 5, h => simp at h; subst h; exact ⟨_, rfl, .inl ⟨_, rfl, rfl⟩⟩
    | j + 6, h =>
      obtain ⟨x, h1, h2⟩ := cellsL_ren L j y (by simpa using h)
      refine ⟨x, by simpa using h1, ?_⟩
      rcases h2 with h2 | ⟨p, hp, h2⟩
      · exact .inl h2
      · exact .inr ⟨p, List.mem_cons_of_mem _ (List.mem_cons_of_mem _ hp), h2⟩
theorem retok_cells {us : List Nat} {tA : Nat} (L : List SP) (hA : us.getD 0 0 = tA) (h0 : 0 < us.length) (hr : ∀ p ∈ rowsL L, p.1 = .nil ∨ ∃ i, p.1 = .id i ∧ i ∈ us) :
    ReTok us (.sl (.id tA) 6 (cellsL L)) (.sl (.id 0) 6 (cellsL (L.map (renSP us)))) := by
  intro w M M' μ μ' c v hM hμ h
  have hlen : (cellsL (L.map (renSP us))).length = (cellsL L).length := by rw [cellsL_len, cellsL_len, List.length_map]
  generalize hx : V.sl (.id tA) 6 (cellsL L) = x at h
  cases h with
  | any | lit | agg | tup => cases hx
  | nil tk sz =>
    simp only [V.sl.injEq] at hx
    obtain ⟨rfl, rfl, hx⟩ := hx
    have : cellsL (L.map (renSP us)) = [] := List.eq_nil_of_length_eq_zero (by rw [hlen, hx]; rfl)
    rw [this]
    exact .nil _ 6
  | sl tk sz n cap a l' vs htk hn hc hs hMb hcap h1 hl =>
    simp only [V.sl.injEq] at hx
    obtain ⟨rfl, rfl, rfl⟩ := hx
    refine .sl _ 6 n cap a _ vs ?_ (by rw [hlen]; exact hn) hc hs (fun h => hM _ (hMb h)) hcap h1 (fun j y hy => ?_)
    · intro hr
      obtain ⟨⟨q1, q2⟩, q3⟩ := htk hr
      exact ⟨⟨h0, by rw [hμ 0 h0, hA]; exact q2⟩, q3⟩
    · obtain ⟨x, hx, ⟨v, rfl, rfl⟩ | ⟨p, hp, rfl, rfl⟩⟩ := cellsL_ren L j y hy
      · have := hl j _ hx
        generalize vs j = u at this
        cases this
        exact .lit _
      · exact rep_row hM hμ (hr p hp) (hl j _ hx)
theorem idxOf_inj {us : List Nat} {i j : Nat} (hi : i ∈ us) (hj : j ∈ us) (h : us.idxOf i = us.idxOf j) : i = j := by
  rw [← (getD_idxOf hi).2, ← (getD_idxOf hj).2, h]

section
variable {c0 : Nat} {ρ : Nat → V} {σ : Nat → Option Blk} {c i : Nat} {r : List VO} {K : VS → Prop}
theorem own10_facts {x : X} {tA lo : Nat} (L : List SP) (hx : x.ev ρ = .sl (.id tA) 6 (cellsL L)) (hl : 0 < L.length) (hl2 : L.length ≤ 1000) (hc : c0 ≤ lo) (hlo : lo ≤ tA) (hA : tA < c)
    (hp : ∀ p ∈ rowsL L, Row1 lo tA p.1 p.2 ∧ p.2.length ≤ 4398046511104) (ha : (rowsL L).Pairwise (fun p q => Apt p.1 q.1)) :
    ∃ us x', us = tA :: ids (rowsV (rowsL L)) ∧ GivSpec Tryz.prog F.surdlaw10_own us.length x' ∧ (x.ev ρ).one = true ∧ ReTok us (x.ev ρ) x' ∧ nodupB us = true ∧ ∀ t ∈ us, c0 ≤ t ∧ t < c := by
  obtain ⟨us, hus⟩ : ∃ us, us = tA :: ids (rowsV (rowsL L)) := ⟨_, rfl⟩
  have hown := ownable_of (c0 := c0) (lo := lo) (tL := tA) (ps := rowsL L) hc (by rw [rowsL_len]; omega) (by rw [rowsL_len]; omega) hp hlo ha
  simp only [ownable, Bool.and_eq_true, decide_eq_true_eq, List.all_eq_true] at hown
  obtain ⟨⟨⟨⟨_, _⟩, _⟩, _⟩, hnd⟩ := hown
  have hid : ∀ j ∈ ids (rowsV (rowsL L)), lo ≤ j ∧ j < tA := fun j hj => by
    obtain ⟨p, hpm, e⟩ := mem_ids hj
    rcases (hp p hpm).1 with ⟨e1, _⟩ | ⟨q, e1, h3, h4⟩
    · rw [e] at e1; cases e1
    · rw [e] at e1; cases e1; exact ⟨h3, h4⟩
  rw [← hus] at hnd
  have hmem : ∀ p ∈ rowsL L, p.1 = .nil ∨ ∃ j, p.1 = .id j ∧ j ∈ us := fun p hpm => by
    rcases (hp p hpm).1 with ⟨e1, _⟩ | ⟨q, e1, h3, h4⟩
    · exact .inl e1
    · refine .inr ⟨q, e1, ?_⟩
      rw [hus]
      refine List.mem_cons_of_mem _ (List.mem_filterMap.2 ⟨nats p.1 p.2, List.mem_map.2 ⟨p, hpm, rfl⟩, ?_⟩)
      rw [e1]
  have hpos : 0 < us.length := by rw [hus]; simp
  have hgiv := own10_giv (L.map (renSP us)) (by simpa using hl) (by simpa using hl2) us.length (fun p hpm => by
      rw [rowsL_ren] at hpm
      obtain ⟨q, hq, rfl⟩ := List.mem_map.1 hpm
      refine ⟨?_, (hp q hq).2⟩
      rcases (hp q hq).1 with ⟨e1, e2⟩ | ⟨j, e1, _⟩
      · exact .inl ⟨by simp only [e1]; rfl, e2⟩
      · rcases hmem q hq with e | ⟨j', e, hj'⟩
        · rw [e1] at e; cases e
        · exact .inr ⟨us.idxOf j', by simp only [e]; rfl, Nat.zero_le _, (getD_idxOf hj').1⟩) (by
      rw [rowsL_ren, List.pairwise_map]
      refine List.Pairwise.imp_of_mem (fun {p q} hpm hqm h => ?_) ha
      intro k e1 e2
      rcases hmem p hpm with e | ⟨j, e, hj⟩
      · simp only [e] at e1; cases e1
      · rcases hmem q hqm with e' | ⟨j', e', hj'⟩
        · simp only [e'] at e2; cases e2
        · simp only [e, renT] at e1
          simp only [e', renT] at e2
          cases e1
          have := idxOf_inj hj' hj (by injection e2)
          exact h j e (by rw [e', this]))
  refine ⟨us, _, hus, hgiv, by rw [hx]; rfl, by rw [hx]; exact retok_cells L (by rw [hus]; rfl) hpos hmem, hnd, fun t ht => ?_⟩
  rw [hus] at ht
  rcases List.mem_cons.1 ht with rfl | h
  · exact ⟨by omega, by omega⟩
  · have := hid t h; exact ⟨by omega, by omega⟩
theorem s_own10 {x : X} {tA lo : Nat} (L : List SP) (hx : x.ev ρ = .sl (.id tA) 6 (cellsL L)) (hl : 0 < L.length) (hl2 : L.length ≤ 1000) (hc : c0 ≤ lo) (hlo : lo ≤ tA) (hA : tA < c)
    (hp : ∀ p ∈ rowsL L, Row1 lo tA p.1 p.2 ∧ p.2.length ≤ 4398046511104) (ha : (rowsL L).Pairwise (fun p q => Apt p.1 q.1))
    (hk : wps Tryz.prog false c0 r ⟨upd (kill (some (.inr (tA :: ids (rowsV (rowsL L))))) ρ) i (bv true), fun t => if (tA :: ids (rowsV (rowsL L))).contains t = true then none else (σ t).map fun b => ⟨b.cells.map (V.thawL (tA :: ids (rowsV (rowsL L)))), b.live⟩, c⟩ K) :
    wps Tryz.prog false c0 (⟨some i, .call F.surdlaw10_own [x], none⟩ :: r) ⟨ρ, σ, c⟩ K := by
  obtain ⟨us, x', hus, h1, h2, h3, h4, h5⟩ := own10_facts (c := c) L hx hl hl2 hc hlo hA hp ha
  rw [← hus] at hk
  show opS Tryz.prog false c0 (.call F.surdlaw10_own [x]) (some i) _ _
  exact ⟨_, _, _, _, .ownV (us := us) rfl h1 h2 h3 h4 h5, hk⟩
end
end Go.Proofs.YtplofcianjnkmaaGreatDoor
set_option linter.unusedSimpArgs false
set_option linter.unusedVariables false
set_option maxRecDepth 100000
set_option maxHeartbeats 8000000
namespace Go.Proofs.YtplofcianjnkmaaGreatDoor
open Go.VM Go.RowKit

def anE (f : Int) (lo hi : Dy) : Int := if f = 0 then ansE lo hi else f
def anL (f : Int) (lo hi : Dy) : Dy := if f = 0 then ansL lo hi else dy0
def anH (f : Int) (lo hi : Dy) : Dy := if f = 0 then ansH lo hi else dy0
theorem AnsF.an {c c' : Nat} {f : Int} {lo hi : Dy} {r : V} (h : AnsF c c' f lo hi r) (hcc : c ≤ c') : ∃ t u cm, c ≤ cm ∧ cm ≤ c' ∧ r = .tup [rsV t u (RD.of (anL f lo hi)) (RD.of (anH f lo hi)), iv (anE f lo hi)] ∧ Own1 c cm t (digs 18446744073709551616 (anL f lo hi).m) ∧ Own1 cm c' u (digs 18446744073709551616 (anH f lo hi).m) := by
  unfold anE anL anH
  by_cases g : f = 0
  · obtain ⟨t, u, cm, h1, h2, h3, h4, h5⟩ := h.ok g
    rw [if_pos g, if_pos g, if_pos g]
    exact ⟨t, u, cm, h1, h2, h3, h4, h5⟩
  · rw [if_neg g, if_neg g, if_neg g]
    exact ⟨.nil, .nil, c, Nat.le_refl _, hcc, h.bad g, .inl ⟨rfl, rfl⟩, .inl ⟨rfl, rfl⟩⟩
theorem alk_an (t u tk uk : Tok) (f : Int) (x y x' y' : Dy) (c : Nat) (h : f = 0 → RNum x ∧ RNum y ∧ x' = x ∧ y' = y) :
    VSpec Tryz.prog F.surdlaw10_alike c [rsV t u (RD.of (anL f x y)) (RD.of (anH f x y)), iv (anE f x y), fsV tk uk x' y', iv f] (fun r _ => r = bv true) := by
  unfold anE anL anH
  by_cases g : f = 0
  · obtain ⟨h1, h2, rfl, rfl⟩ := h g
    subst g
    exact alk_ok t u tk uk x' y' c h1 h2
  · rw [if_neg g, if_neg g, if_neg g]
    exact alk_bad t u tk uk f x' y' c g
theorem an_len {f : Int} {x y : Dy} (h : f = 0 → RNum x ∧ RNum y) : (RD.of (anL f x y)).l.length ≤ 4398046511104 ∧ (RD.of (anH f x y)).l.length ≤ 4398046511104 := by
  have key : ∀ {z : Dy}, bl z.m ≤ 68719476736 → (RD.of z).l.length ≤ 4398046511104 := fun {z} h => by
    have := digs_len_bl (m := z.m) (k := 1073741824) (by omega)
    show (digs 18446744073709551616 z.m).length ≤ _
    omega
  have k0 : (RD.of dy0).l.length ≤ 4398046511104 := by decide
  unfold anL anH ansL ansH
  by_cases g : f = 0
  · obtain ⟨h1, h2⟩ := h g
    rw [if_pos g, if_pos g]
    constructor
    · split
      · exact key h1.bits
      · exact k0
    · split
      · exact key h2.bits
      · exact k0
  · rw [if_neg g, if_neg g]
    exact ⟨k0, k0⟩

theorem thawL_still {ts : List Nat} {x : V} (h : ∀ q ∈ ts, x.still q 4 = true) : V.thawL ts x = x := by
  unfold V.thawL
  rw [if_pos (List.all_eq_true.2 fun q hq => h q hq)]
def Sf (lo : Nat) (x : V) : Prop := ∀ q, lo ≤ q → x.still q 4 = true
theorem sf_lit {lo : Nat} (v : Value) : Sf lo (.lit v) := fun q _ => rfl
theorem sf_nats {lo : Nat} {t : Tok} {l : List Nat} (h : Kn lo t) : Sf lo (nats t l) := fun q hq => by
  show (t.apart q && (l.map nv).all (V.still q 3)) = true
  rw [Bool.and_eq_true]
  refine ⟨?_, ?_⟩
  · rcases h with rfl | ⟨i, rfl | rfl, hi⟩
    · rfl
    · exact beq_no (by omega)
    · exact beq_no (by omega)
  · rw [List.all_eq_true]
    intro x hx
    obtain ⟨n, _, rfl⟩ := List.mem_map.1 hx
    rfl
section
variable {c0 : Nat} {ρ : Nat → V} {σ : Nat → Option Blk} {c i : Nat} {r : List VO} {K : VS → Prop}
theorem s_own10S {x : X} {tA : Nat} (lo : Nat) (L : List SP) (hx : x.ev ρ = .sl (.id tA) 6 (cellsL L)) (hl : 0 < L.length) (hl2 : L.length ≤ 1000) (hc : c0 ≤ lo) (hlo : lo ≤ tA) (hA : tA < c)
    (hp : ∀ p ∈ rowsL L, Row1 lo tA p.1 p.2 ∧ p.2.length ≤ 4398046511104) (ha : (rowsL L).Pairwise (fun p q => Apt p.1 q.1))
    (hk : ∀ ρ' σ', (∀ j, Sf lo (ρ j) → ρ' j = ρ j) → (∀ t b, t < lo → σ t = some b → (∀ x ∈ b.cells, Sf lo x) → σ' t = some b) → (∀ t, c ≤ t → σ t = none → σ' t = none) → wps Tryz.prog false c0 r ⟨upd ρ' i (bv true), σ', c⟩ K) :
    wps Tryz.prog false c0 (⟨some i, .call F.surdlaw10_own [x], none⟩ :: r) ⟨ρ, σ, c⟩ K := by
  have hid : ∀ j ∈ (tA :: ids (rowsV (rowsL L))), lo ≤ j := fun j hj => by
    rcases List.mem_cons.1 hj with rfl | hj
    · exact hlo
    obtain ⟨p, hpm, e⟩ := mem_ids hj
    rcases (hp p hpm).1 with ⟨e1, _⟩ | ⟨q, e1, h3, h4⟩
    · rw [e] at e1; cases e1
    · rw [e] at e1; cases e1; exact h3
  refine s_own10 L hx hl hl2 hc hlo hA hp ha (hk _ _ (fun j hj => thawL_still fun q hq => hj q (hid q hq)) (fun t b ht hb hs => ?_) (fun t _ h => ?_))
  · rw [if_neg (fun h => by have := hid t (by simpa using h); omega), hb]
    show some (⟨b.cells.map (V.thawL _), b.live⟩ : Blk) = some b
    have : b.cells.map (V.thawL (tA :: ids (rowsV (rowsL L)))) = b.cells := by
      exact (List.map_congr_left fun x hx => thawL_still fun q hq => hs x hx q (hid q hq)).trans (List.map_id _)
    rw [this]
  · simp only [h, Option.map_none, ite_self]
end
end Go.Proofs.YtplofcianjnkmaaGreatDoor
set_option linter.unusedSimpArgs false
set_option linter.unusedVariables false
set_option maxRecDepth 100000
set_option maxHeartbeats 8000000
namespace Go.Proofs.YtplofcianjnkmaaGreatDoor
open Go.VM

def chkL : List SP → Int
  | [] => 0
  | s :: L => if chkE s.a s.b = 0 then chkL L else chkE s.a s.b
def chksE (pos : Int) (L : List SP) : Int := if chkL L = 0 then (if fitE pos then 0 else 1) else chkL L
theorem chkL_drop {L : List SP} {i : Nat} {s : SP} (h : L[i]? = some s) : chkL (L.drop i) = if chkE s.a s.b = 0 then chkL (L.drop (i + 1)) else chkE s.a s.b := by
  have hi := (List.getElem?_eq_some_iff.1 h).1
  have e : L[i] = s := (List.getElem?_eq_some_iff.1 h).2
  rw [List.drop_eq_getElem_cons hi, e]
  rfl
theorem checks_spec (pos : Int) (t : Tok) (L : List SP) (c : Nat) (hl : L.length ≤ 1000) (ha : ∀ s ∈ L, Arg s.a.l ∧ Arg s.b.l) : VSpec Tryz.prog F.span_checks c [iv pos, .sl t 6 (cellsL L)] (fun r _ => r = iv (chksE pos L)) := by
  refine spec_mk hm E.span_checks B.span_checks K.span_checks Q.span_checks (by rw [N.span_checks]; simp) ?_
  unfold C.span_checks R.span_checks
  have hcl := cellsL_len L
  have hd : (cellsL L).length / 6 = L.length := by omega
  refine zRF hd ?_
  refine v_loopR (fun S => chkL L = 0 ∧ S.ρ 0 = iv pos ∧ c ≤ S.c) ?_ ?_
  · refine vwp_loop (fun k S => ∃ i, k = L.length - i ∧ i ≤ L.length ∧ chkL (L.drop i) = chkL L ∧ S.ρ 0 = iv pos ∧ S.ρ 8 = .sl t 6 (cellsL L) ∧ S.ρ 9 = iv L.length ∧ S.ρ 10 = iv i ∧ c ≤ S.c) L.length ?_ ?_
    · refine ⟨0, by omega, by omega, rfl, ?_⟩
      refine xS ?_
      (repeat' apply And.intro) <;> first | rfl | omega | assumption
    rintro k ⟨ρ, σ, c1⟩ ⟨i, hk, hi, hc, h0, h8, h9, h10, hc1⟩
    dsimp only at h0 h8 h9 h10 hc1
    by_cases g : (i : Int) < L.length
    · have hi' : i < L.length := by omega
      obtain ⟨s, hs⟩ : ∃ s, L[i]? = some s := ⟨_, List.getElem?_eq_getElem hi'⟩
      have hat := cellsL_at L i s hs
      have hds := chkL_drop hs
      have e1 : (i : Int) + 1 = ((i + 1 : Nat) : Int) := by omega
      obtain ⟨g1, g2⟩ := ha s (List.mem_of_getElem? hs)
      refine zRF (jn h0 (jn h8 (jn h9 (jn h10 (jn g (jn hd (jn hi' hat))))))) ?_
      refine s_call (check_spec s.t s.u s.a s.b (c1 + 1) g1 g2) wS ?_
      rintro v c2 hc2 rfl
      by_cases g3 : chkE s.a s.b = 0
      · rw [if_pos g3] at hds
        have hn : chkL (L.drop (i + 1)) = chkL L := by rw [← hds]; exact hc
        refine zRF (jn h0 (jn h8 (jn h9 (jn h10 (jn g3 e1))))) ?_
        refine ⟨L.length - (i + 1), by omega, i + 1, ?_⟩
        (repeat' apply And.intro) <;> first | rfl | omega | assumption
      · rw [if_neg g3] at hds
        have e2 : chksE pos L = chkE s.a s.b := by unfold chksE; rw [← hc, hds, if_neg g3]
        rw [e2]
        refine zRF (jn h0 (jn h8 (jn h9 (jn h10 g3)))) ?_
        (first | omega | rfl | ((repeat' apply And.intro) <;> first | rfl | omega | assumption))
    · have hi' : i = L.length := by omega
      subst hi'
      rw [List.drop_length] at hc
      have hn : chkL L = 0 := hc.symm
      refine zRF (jn h0 (jn h8 (jn h9 (jn h10 g)))) ?_
      (repeat' apply And.intro) <;> first | rfl | omega | assumption
  rintro ⟨ρ, σ, c1⟩ ⟨hc, h0, hc1⟩
  dsimp only at h0 hc1
  have e0 : chksE pos L = if fitE pos then 0 else 1 := by unfold chksE; rw [if_pos hc]
  rw [e0]
  by_cases g1 : pos < -1099511627776
  · have g2 : ¬ fitE pos := fun h => by unfold fitE at h; omega
    rw [if_neg g2]
    refine zRF (jn h0 g1) ?_
    (first | omega | rfl | ((repeat' apply And.intro) <;> first | rfl | omega | assumption))
  · by_cases g3 : (1099511627776 : Int) < pos
    · have g2 : ¬ fitE pos := fun h => by unfold fitE at h; omega
      rw [if_neg g2]
      refine zRF (jn h0 (jn g1 g3)) ?_
      (first | omega | rfl | ((repeat' apply And.intro) <;> first | rfl | omega | assumption))
    · have g2 : fitE pos := ⟨by omega, by omega⟩
      rw [if_pos g2]
      refine zRF (jn h0 (jn g1 g3)) ?_
      (first | omega | rfl | ((repeat' apply And.intro) <;> first | rfl | omega | assumption))

end Go.Proofs.YtplofcianjnkmaaGreatDoor
set_option linter.unusedSimpArgs false
set_option linter.unusedVariables false
set_option maxRecDepth 100000
set_option maxHeartbeats 8000000
namespace Go.Proofs.YtplofcianjnkmaaGreatDoor
open Go.VM

def chk2 (a b p q : RD) : Int := if chkE a b = 0 then chkE p q else chkE a b
theorem args2 {ta tb tc td : Tok} {a b p q : RD} (ha : Arg a.l) (hb : Arg b.l) (hp : Arg p.l) (hq : Arg q.l) : ∀ s ∈ ([⟨ta, tb, a, b⟩, ⟨tc, td, p, q⟩] : List SP), Arg s.a.l ∧ Arg s.b.l := by
  intro s hs
  simp only [List.mem_cons, List.not_mem_nil, or_false] at hs
  rcases hs with rfl | rfl
  · exact ⟨ha, hb⟩
  · exact ⟨hp, hq⟩
structure Op2 (f : FuncId) (D : Dy → Dy → Dy) : Prop where
  ex : ∃ fn b, Tryz.prog.funcs[f]? = some fn ∧ (fn.name == "runtime.NumGoroutine") = false ∧ fn.body = some b
  sp : ∀ (ta tb : Tok) (a b : RD) (c : Nat), a.Ok → b.Ok → VSpec Tryz.prog f c [rdV ta a, rdV tb b] (fun r c' => AnsD c c' (D a.d b.d) r)
theorem AnsF.mono {c c' d d' : Nat} {f : Int} {x y : Dy} {r : V} (h : AnsF c c' f x y r) (h1 : d ≤ c) (h2 : c' ≤ d') : AnsF d d' f x y r := ⟨h.bad, fun g => (h.ok g).mono h1 h2⟩
end Go.Proofs.YtplofcianjnkmaaGreatDoor
set_option linter.unusedSimpArgs false
set_option linter.unusedVariables false
set_option maxRecDepth 100000
set_option maxHeartbeats 8000000
namespace Go.Proofs.YtplofcianjnkmaaGreatDoor
open Go.VM

theorem rless_spec (t u : Tok) (x y : Dy) (c : Nat) (hx : RNum x) (hy : RNum y) : VSpec Tryz.prog F.surdref10_less c [fV t x, fV u y] (fun r _ => ∃ tk, r = fV tk (minD x y)) := by
  refine spec_mk hm E.surdref10_less B.surdref10_less K.surdref10_less Q.surdref10_less (by rw [N.surdref10_less]; simp) ?_
  unfold C.surdref10_less R.surdref10_less
  refine zR ?_
  refine s_call (rcmp_spec t u x y (c + 3) hx hy) wS ?_
  rintro v c1 hc1 rfl
  by_cases g : cmpD x y ≤ 0
  · have e : minD x y = x := if_pos g
    rw [e]
    refine zRF g ?_
    exact ⟨t, rfl⟩
  · have e : minD x y = y := if_neg g
    rw [e]
    refine zRF g ?_
    exact ⟨u, rfl⟩
theorem rmore_spec (t u : Tok) (x y : Dy) (c : Nat) (hx : RNum x) (hy : RNum y) : VSpec Tryz.prog F.surdref10_more c [fV t x, fV u y] (fun r _ => ∃ tk, r = fV tk (maxD x y)) := by
  refine spec_mk hm E.surdref10_more B.surdref10_more K.surdref10_more Q.surdref10_more (by rw [N.surdref10_more]; simp) ?_
  unfold C.surdref10_more R.surdref10_more
  refine zR ?_
  refine s_call (rcmp_spec t u x y (c + 3) hx hy) wS ?_
  rintro v c1 hc1 rfl
  by_cases g : 0 ≤ cmpD x y
  · have e : maxD x y = x := if_pos g
    rw [e]
    refine zRF g ?_
    exact ⟨t, rfl⟩
  · have e : maxD x y = y := if_neg g
    rw [e]
    refine zRF g ?_
    exact ⟨u, rfl⟩
theorem minD_r {x y : Dy} (hx : RNum x) (hy : RNum y) : RNum (minD x y) := by unfold minD; split <;> assumption
theorem maxD_r {x y : Dy} (hx : RNum x) (hy : RNum y) : RNum (maxD x y) := by unfold maxD; split <;> assumption
end Go.Proofs.YtplofcianjnkmaaGreatDoor
set_option linter.unusedSimpArgs false
set_option linter.unusedVariables false
set_option maxRecDepth 100000
set_option maxHeartbeats 8000000
namespace Go.Proofs.YtplofcianjnkmaaGreatDoor
open Go.VM

def w2 (pos f g : Int) : Int := if f = 0 then (if g = 0 then (if fitE pos then 0 else 1) else g) else f
inductive Chn : Nat → List (Tok × List Nat) → Nat → Prop
  | nil {lo hi : Nat} (h : lo ≤ hi) : Chn lo [] hi
  | cons {lo a b hi : Nat} {t : Tok} {l : List Nat} {r : List (Tok × List Nat)} (h : Own1 a b t l) (h1 : lo ≤ a) (h2 : lo ≤ b) (hr : Chn b r hi) : Chn lo ((t, l) :: r) hi
theorem Chn.le {lo hi : Nat} {r : List (Tok × List Nat)} (h : Chn lo r hi) : lo ≤ hi := by
  induction h with
  | nil h => exact h
  | cons h h1 h2 hr ih => omega
theorem Chn.row {lo hi : Nat} {r : List (Tok × List Nat)} (h : Chn lo r hi) : ∀ p ∈ r, Own1 lo hi p.1 p.2 := by
  induction h with
  | nil h => intro p hp; cases hp
  | cons h h1 h2 hr ih =>
    intro p hp
    rcases List.mem_cons.1 hp with rfl | hp
    · exact h.mono h1 hr.le
    · exact (ih p hp).mono h2 (Nat.le_refl _)
theorem Chn.apt {lo hi : Nat} {r : List (Tok × List Nat)} (h : Chn lo r hi) : r.Pairwise (fun p q => Apt p.1 q.1) := by
  induction h with
  | nil h => exact List.Pairwise.nil
  | cons h h1 h2 hr ih =>
    refine List.Pairwise.cons (fun q hq => ?_) ih
    intro i e1 e2
    rcases h with ⟨h, _⟩ | ⟨j, h, _, h3⟩
    · simp only [h] at e1; cases e1
    · simp only [h] at e1; cases e1
      rcases hr.row q hq with ⟨g, _⟩ | ⟨k, g, g1, _⟩
      · rw [g] at e2; cases e2
      · rw [g] at e2; cases e2; omega
end Go.Proofs.YtplofcianjnkmaaGreatDoor
set_option linter.unusedSimpArgs false
set_option linter.unusedVariables false
set_option maxRecDepth 100000
set_option maxHeartbeats 8000000
namespace Go.Proofs.YtplofcianjnkmaaGreatDoor
open Go.VM

end Go.Proofs.YtplofcianjnkmaaGreatDoor
set_option linter.unusedSimpArgs false
set_option linter.unusedVariables false
set_option maxRecDepth 100000
set_option maxHeartbeats 8000000
namespace Go.Proofs.YtplofcianjnkmaaGreatDoor
open Go.VM

end Go.Proofs.YtplofcianjnkmaaGreatDoor
set_option linter.unusedVariables false
set_option linter.unusedSimpArgs false
namespace Go.Proofs.YtplofcianjnkmaaGreatDoor
open Go.VM

theorem bl_addK {a b k : Nat} (ha : bl a ≤ k) (hb : bl b ≤ k) : bl (a + b) ≤ k + 1 := bl_le (by have h1 := lt_of_bl ha; have h2 := lt_of_bl hb; rw [Nat.pow_succ]; omega)
theorem bl_halfK {a k : Nat} (ha : bl a ≤ k + 1) : bl (a / 2) ≤ k := bl_le (by have h1 := lt_of_bl ha; rw [Nat.pow_succ] at h1; omega)
theorem od_odd {n : Nat} (h : n % 2 = 1) : od n = n := by
  unfold od
  rw [tz_odd h, Nat.pow_zero, Nat.div_one]
theorem dyOf_odd {neg : Bool} {n : Nat} {e : Int} (h : n % 2 = 1) : dyOf neg n e = ⟨neg, n, e⟩ := by
  unfold dyOf
  rw [if_neg (by omega), od_odd h, tz_odd h]
  simp
end Go.Proofs.YtplofcianjnkmaaGreatDoor
set_option linter.unusedSimpArgs false
set_option linter.unusedVariables false
set_option maxRecDepth 100000
set_option maxHeartbeats 8000000
namespace Go.Proofs.YtplofcianjnkmaaGreatDoor
open Go.VM

theorem addW_neg {an bn : Bool} {a b : Nat} (h : b ≤ a) (g : an ≠ bn) : addW an a bn b = (an, a - b) := by
  unfold addW
  rw [if_neg g, if_neg (by omega)]
theorem addW_neg' {an bn : Bool} {a b : Nat} (h : a < b) (g : an ≠ bn) : addW an a bn b = (bn, b - a) := by
  unfold addW
  rw [if_neg g, if_pos h]
theorem radd06_spec (t u : Tok) (an bn : Bool) (a b c : Nat) (ha : bl a ≤ 34359738368) (hb : bl b ≤ 34359738368) :
    VSpec Tryz.prog F.surdref06_Add c [zV t an a, zV u bn b] (fun r _ => ∃ tk, r = zV tk (zneg (addW an a bn b).1 (addW an a bn b).2) (addW an a bn b).2) := by
  refine spec_mk hm E.surdref06_Add B.surdref06_Add K.surdref06_Add Q.surdref06_Add (by rw [N.surdref06_Add]; simp) ?_
  unfold C.surdref06_Add R.surdref06_Add
  have hs := bl_addK ha hb
  by_cases g : an = bn
  · subst g
    have e : addW an a an b = (an, a + b) := if_pos rfl
    have en : sbin .eql true (bv an) (bv an) = some (bv true) := by cases an <;> rfl
    rw [e]
    refine zRF en ?_
    refine s_call (addR t u a b (c + 3) (by omega) (by omega)) wS ?_
    rintro v c1 hc1 ⟨i, rfl, _, _⟩
    refine zR ?_
    refine s_call (make1_spec an (.id i) (a + b) c1 (by omega)) wS ?_
    rintro v c2 hc2 rfl
    refine zR ?_
    exact ⟨_, rfl⟩
  · have en : sbin .eql true (bv an) (bv bn) = some (bv false) := by cases an <;> cases bn <;> first | rfl | exact absurd rfl g
    refine zRF en ?_
    refine s_call (cmpR t u a b (c + 3) (by omega) (by omega)) wS ?_
    rintro v c1 hc1 rfl
    by_cases h : b ≤ a
    · have h1 : 0 ≤ cmpI a b := by have := cmpI_cases a b; omega
      rw [addW_neg h g]
      refine zRF h1 ?_
      refine s_call (subR t u a b c1 (by omega) h) wS ?_
      rintro v c2 hc2 ⟨i, rfl, _, _⟩
      refine zR ?_
      refine s_call (make1_spec an (.id i) (a - b) c2 (Nat.le_trans (bl_mono (Nat.sub_le a b)) (by omega))) wS ?_
      rintro v c3 hc3 rfl
      refine zR ?_
      exact ⟨_, rfl⟩
    · have h1 : ¬ 0 ≤ cmpI a b := by have := cmpI_cases a b; omega
      rw [addW_neg' (by omega) g]
      refine zRF h1 ?_
      refine s_call (subR u t b a c1 (by omega) (by omega)) wS ?_
      rintro v c2 hc2 ⟨i, rfl, _, _⟩
      refine zR ?_
      refine s_call (make1_spec bn (.id i) (b - a) c2 (Nat.le_trans (bl_mono (Nat.sub_le b a)) (by omega))) wS ?_
      rintro v c3 hc3 rfl
      refine zR ?_
      exact ⟨_, rfl⟩
theorem rneg06_spec (t : Tok) (neg : Bool) (n c : Nat) (hn : bl n ≤ 68719476736) : VSpec Tryz.prog F.surdref06_Neg c [zV t neg n] (fun r _ => r = zV t (zneg (!neg) n) n) := by
  refine spec_mk hm E.surdref06_Neg B.surdref06_Neg K.surdref06_Neg Q.surdref06_Neg (by rw [N.surdref06_Neg]; simp) ?_
  unfold C.surdref06_Neg R.surdref06_Neg
  refine zR ?_
  refine s_call (make1_spec (!neg) t n (c + 2) hn) wS ?_
  rintro v c1 hc1 rfl
  refine zR ?_
  (first | omega | rfl | ((repeat' apply And.intro) <;> first | rfl | omega | assumption))
end Go.Proofs.YtplofcianjnkmaaGreatDoor
set_option linter.unusedSimpArgs false
set_option linter.unusedVariables false
set_option maxRecDepth 100000
set_option maxHeartbeats 8000000
namespace Go.Proofs.YtplofcianjnkmaaGreatDoor
open Go.VM

theorem zn_nz {neg : Bool} {n : Nat} (h : n ≠ 0) : zneg neg n = neg := by unfold zneg; rw [decide_eq_false h]; simp
end Go.Proofs.YtplofcianjnkmaaGreatDoor
