/- Texts of a claim, merged: what they prove is told at the last one's head. -/
import Derived.Test.YthjnmfieicniaaaPerM2
import Derived.Test.YthjnmfieicniaaaChecked
import Derived.Lib.Mul64
set_option linter.unusedSimpArgs false
set_option linter.unusedVariables false
set_option maxRecDepth 100000
set_option maxHeartbeats 8000000


namespace Go.Proofs.Ythjnmfieicniaaa
open Go.VM
theorem hm : Try.prog.follows .mixedOrders = true := Try.checked.mixed
theorem two64 : 2 ≤ 18446744073709551616 := by decide

theorem getD_snoc (m : List Nat) (x : Nat) : (m ++ [x]).getD m.length 0 = x := by simp
theorem take_snoc' (m : List Nat) (x : Nat) : (m ++ [x]).take m.length = m := by simp

theorem trim_spec (t : Tok) (l : List Nat) (c : Nat) (hl : Lim 18446744073709551616 l) (hn : l.length ≤ 4398046511104) : VSpec Try.prog F.nat_trim c [nats t l] (fun r _ => r = nats t (digs 18446744073709551616 (val 18446744073709551616 l))) := by
  rw [← trim_digs two64 hl]
  refine sG hm G.nat_trim ?_
  unfold C.nat_trim R.nat_trim cD
  refine v_reg ?_
  simp only [vm, ite_true, ite_false, eq_self, reduceIte, Nat.reduceEqDiff, Option.map]
  refine vwp_seq (vwp_block (vwp_loop (fun n S => ∃ l', S.ρ 0 = nats t l' ∧ trimL l' = trimL l ∧ l'.length = n ∧ n ≤ l.length ∧ S.σ = noBlk ∧ S.c = c) l.length ⟨l, rfl, rfl, rfl, Nat.le_refl _, rfl, rfl⟩ ?_))
  rintro n ⟨ρ, σ, k⟩ ⟨l', h0, h1, h2, h3, rfl, rfl⟩
  dsimp only at h0
  refine vwp_seq (v_reg ?_)
  rcases snoc_cases l' with rfl | ⟨m, x, rfl⟩
  · have e : ¬ (0 : Int) < ([] : List Nat).length := by simp
    simp only [vm, ite_true, ite_false, eq_self, reduceIte, Nat.reduceEqDiff, Option.map, h0, e]
    refine v_cond ?_
    simp only [vm, ite_true, ite_false, eq_self, reduceIte, Nat.reduceEqDiff, Option.map]
    refine vwp_exit ?_
    simp only [vm, ite_true, ite_false, eq_self, reduceIte, Nat.reduceEqDiff, Option.map]
    refine v_reg ?_
    simp only [vm, ite_true, ite_false, eq_self, reduceIte, Nat.reduceEqDiff, Option.map, h0]
    refine vwp_ret ?_
    simp only [vm, ite_true, ite_false, eq_self, reduceIte, Nat.reduceEqDiff, Option.map]
    exact ⟨Nat.le_refl _, by rw [← h1]; rfl⟩
  · have e : (0 : Int) < (m ++ [x]).length := by simp
    have e1 : ((m ++ [x]).length - 1 : Int).toNat = m.length := by simp
    have e2 : (m ++ [x]).length = m.length + 1 := by simp
    simp only [vm, ite_true, ite_false, eq_self, reduceIte, Nat.reduceEqDiff, Option.map, h0, e, e1, getD_snoc]
    refine ⟨⟨by omega, by omega⟩, ⟨by omega, by omega⟩, by omega, v_cond ?_⟩
    simp only [vm, ite_true, ite_false, eq_self, reduceIte, Nat.reduceEqDiff, Option.map]
    refine ⟨fun g => vwp_skip ?_, fun g => vwp_exit ?_⟩
    · simp only [vm, ite_true, ite_false, eq_self, reduceIte, Nat.reduceEqDiff, Option.map]
      refine vwp_block (v_last ?_)
      simp only [vm, ite_true, ite_false, eq_self, reduceIte, Nat.reduceEqDiff, Option.map, h0, e1, take_snoc']
      refine ⟨by omega, by omega, m.length, by omega, m, rfl, ?_, rfl, by omega⟩
      rw [← h1, g, trimL_zero]
    · simp only [vm, ite_true, ite_false, eq_self, reduceIte, Nat.reduceEqDiff, Option.map]
      refine v_reg ?_
      simp only [vm, ite_true, ite_false, eq_self, reduceIte, Nat.reduceEqDiff, Option.map, h0]
      refine vwp_ret ?_
      simp only [vm, ite_true, ite_false, eq_self, reduceIte, Nat.reduceEqDiff, Option.map]
      exact ⟨Nat.le_refl _, by rw [← h1, trimL_pos _ _ g]⟩

def Tk (c c' : Nat) (t : Tok) : Prop := t = .nil ∨ ∃ i, t = .id i ∧ c ≤ i ∧ i < c'
theorem Tk.mono {c c' d d' : Nat} {t : Tok} (h : Tk c c' t) (h1 : d ≤ c) (h2 : c' ≤ d') : Tk d d' t := by
  rcases h with rfl | ⟨i, rfl, h3, h4⟩
  · exact .inl rfl
  · exact .inr ⟨i, rfl, by omega, by omega⟩
def NatR (c c' n : Nat) (v : V) : Prop := ∃ t, v = nats t (digs 18446744073709551616 n) ∧ Tk c c' t

theorem norm_spec (t : Tok) (l : List Nat) (c : Nat) (hl : Lim 18446744073709551616 l) (hn : l.length ≤ 4398046511104) : VSpec Try.prog F.nat_Norm c [nats t l] (fun r c' => NatR c c' (val 18446744073709551616 l) r) := by
  refine sG hm G.nat_Norm ?_
  unfold C.nat_Norm R.nat_Norm cD
  refine v_reg ?_
  simp only [vm, ite_true, ite_false, eq_self, reduceIte, Nat.reduceEqDiff, Option.map]
  refine v_reg ?_
  simp only [vm, ite_true, ite_false, eq_self, reduceIte, Nat.reduceEqDiff, Option.map]
  refine s_call (trim_spec t l c hl hn) (by simp only [vm, ite_true, ite_false, eq_self, reduceIte, Nat.reduceEqDiff, Option.map, List.map]) ?_
  rintro v c' hc rfl
  have hlen := digs_len_le two64 hl
  refine s_app0 (t := t) (l := digs 18446744073709551616 (val 18446744073709551616 l)) (by simp only [vm, ite_true, ite_false, eq_self, reduceIte, Nat.reduceEqDiff, Option.map]) (by simp only [vm, ite_true, ite_false, eq_self, reduceIte, Nat.reduceEqDiff, Option.map]) (by omega) (fun e => ?_) (fun e => ?_)
  · simp only [vm, ite_true, ite_false, eq_self, reduceIte, Nat.reduceEqDiff, Option.map]
    refine vwp_ret ?_
    simp only [vm, ite_true, ite_false, eq_self, reduceIte, Nat.reduceEqDiff, Option.map]
    exact ⟨hc, .nil, by rw [e]; rfl, .inl rfl⟩
  · simp only [vm, ite_true, ite_false, eq_self, reduceIte, Nat.reduceEqDiff, Option.map]
    refine v_freeze 2 (l := digs 18446744073709551616 (val 18446744073709551616 l)) rfl (by simp only [vm, ite_true, ite_false, eq_self, reduceIte, Nat.reduceEqDiff, Option.map]) hc (by omega) ?_
    refine vwp_ret ?_
    simp only [vm, ite_true, ite_false, eq_self, reduceIte, Nat.reduceEqDiff, Option.map, List.drop_zero, List.take_length]
    exact ⟨by omega, .id c', rfl, .inr ⟨c', rfl, hc, by omega⟩⟩

theorem from_spec (n c : Nat) (hn : n < 18446744073709551616) : VSpec Try.prog F.nat_From c [nv n] (fun r c' => NatR c c' n r) := by
  refine sG hm G.nat_From ?_
  unfold C.nat_From R.nat_From cD
  refine v_reg ?_
  simp only [vm, ite_true, ite_false, eq_self, reduceIte, Nat.reduceEqDiff, Option.map]
  refine vwp_seq (v_reg ?_)
  simp only [vm, ite_true, ite_false, eq_self, reduceIte, Nat.reduceEqDiff, Option.map]
  refine v_cond ?_
  simp only [vm, ite_true, ite_false, eq_self, reduceIte, Nat.reduceEqDiff, Option.map]
  refine ⟨fun g => v_reg ?_, fun g => vwp_skip ?_⟩
  · simp only [vm, ite_true, ite_false, eq_self, reduceIte, Nat.reduceEqDiff, Option.map]
    refine vwp_ret ?_
    simp only [vm, ite_true, ite_false, eq_self, reduceIte, Nat.reduceEqDiff, Option.map]
    exact ⟨Nat.le_refl _, .nil, by subst g; rfl, .inl rfl⟩
  · simp only [vm, ite_true, ite_false, eq_self, reduceIte, Nat.reduceEqDiff, Option.map]
    refine v_reg ?_
    simp only [vm, ite_true, ite_false, eq_self, reduceIte, Nat.reduceEqDiff, Option.map]
    refine s_bsl1 (n := n) (by simp only [vm, ite_true, ite_false, eq_self, reduceIte, Nat.reduceEqDiff, Option.map]) ?_
    simp only [vm, ite_true, ite_false, eq_self, reduceIte, Nat.reduceEqDiff, Option.map]
    refine vwp_ret ?_
    simp only [vm, ite_true, ite_false, eq_self, reduceIte, Nat.reduceEqDiff, Option.map]
    refine ⟨by omega, .id c, ?_, .inr ⟨c, rfl, by omega, by omega⟩⟩
    rw [digs_pos two64 (by omega), Nat.mod_eq_of_lt hn, Nat.div_eq_of_lt hn]; rfl

theorem len64_spec (x c : Nat) (hx : x < 18446744073709551616) : VSpec Try.prog F.bits_Len64 c [nv x] (fun r _ => r = iv (bl x)) := by
  refine sG hm G.bits_Len64 ?_
  unfold C.bits_Len64 R.bits_Len64 cD
  refine v_reg ?_
  simp only [vm, ite_true, ite_false, eq_self, reduceIte, Nat.reduceEqDiff, Option.map]
  refine v_cut (fun S => ∃ n y : Nat, S.ρ 0 = nv y ∧ S.ρ 2 = iv n ∧ y < 4294967296 ∧ bl x = n + bl y ∧ n ≤ 32 ∧ S.σ = noBlk ∧ S.c = c) ?_ ?_
  · refine v_reg ?_
    simp only [vm, ite_true, ite_false, eq_self, reduceIte, Nat.reduceEqDiff, Option.map]
    refine v_cond ?_
    simp only [vm, ite_true, ite_false, eq_self, reduceIte, Nat.reduceEqDiff, Option.map]
    refine ⟨fun g => v_reg ?_, fun g => vwp_skip ⟨rfl, 0, x, ?_⟩⟩
    · simp only [vm, ite_true, ite_false, eq_self, reduceIte, Nat.reduceEqDiff, Option.map]
      refine v_last ?_
      simp only [vm, ite_true, ite_false, eq_self, reduceIte, Nat.reduceEqDiff, Option.map]
      exact ⟨32, x / 4294967296, rfl, rfl, by omega, bl_shift (k := 32) g, by omega⟩
    · simp only [vm, ite_true, ite_false, eq_self, reduceIte, Nat.reduceEqDiff, Option.map]
      exact ⟨rfl, by omega, by omega⟩
  rintro ⟨ρ, σ, k⟩ ⟨n, y, h0, h2, hy, hb, hn, rfl, rfl⟩
  dsimp only at h0 h2
  refine v_cut (fun S => ∃ n y : Nat, S.ρ 0 = nv y ∧ S.ρ 2 = iv n ∧ y < 65536 ∧ bl x = n + bl y ∧ n ≤ 48 ∧ S.σ = noBlk ∧ S.c = k) ?_ ?_
  · refine v_reg ?_
    simp only [vm, ite_true, ite_false, eq_self, reduceIte, Nat.reduceEqDiff, Option.map, h0, h2]
    refine v_cond ?_
    simp only [vm, ite_true, ite_false, eq_self, reduceIte, Nat.reduceEqDiff, Option.map]
    refine ⟨fun g => v_reg ?_, fun g => vwp_skip ⟨rfl, n, y, ?_⟩⟩
    · simp only [vm, ite_true, ite_false, eq_self, reduceIte, Nat.reduceEqDiff, Option.map, h0, h2]
      refine v_last ?_
      simp only [vm, ite_true, ite_false, eq_self, reduceIte, Nat.reduceEqDiff, Option.map, h0, h2]
      refine ⟨by omega, n + 16, y / 65536, rfl, rfl, by omega, ?_, by omega⟩
      rw [hb, bl_shift (k := 16) g, Nat.add_assoc]
    · simp only [vm, ite_true, ite_false, eq_self, reduceIte, Nat.reduceEqDiff, Option.map, h0, h2]
      exact ⟨by omega, hb, by omega⟩
  rintro ⟨ρ, σ, k⟩ ⟨n, y, h0, h2, hy, hb, hn, rfl, rfl⟩
  dsimp only at h0 h2
  refine v_cut (fun S => ∃ n y : Nat, S.ρ 0 = nv y ∧ S.ρ 2 = iv n ∧ y < 256 ∧ bl x = n + bl y ∧ n ≤ 56 ∧ S.σ = noBlk ∧ S.c = k) ?_ ?_
  · refine v_reg ?_
    simp only [vm, ite_true, ite_false, eq_self, reduceIte, Nat.reduceEqDiff, Option.map, h0, h2]
    refine v_cond ?_
    simp only [vm, ite_true, ite_false, eq_self, reduceIte, Nat.reduceEqDiff, Option.map]
    refine ⟨fun g => v_reg ?_, fun g => vwp_skip ⟨rfl, n, y, ?_⟩⟩
    · simp only [vm, ite_true, ite_false, eq_self, reduceIte, Nat.reduceEqDiff, Option.map, h0, h2]
      refine v_last ?_
      simp only [vm, ite_true, ite_false, eq_self, reduceIte, Nat.reduceEqDiff, Option.map, h0, h2]
      refine ⟨by omega, n + 8, y / 256, rfl, rfl, by omega, ?_, by omega⟩
      rw [hb, bl_shift (k := 8) g, Nat.add_assoc]
    · simp only [vm, ite_true, ite_false, eq_self, reduceIte, Nat.reduceEqDiff, Option.map, h0, h2]
      exact ⟨by omega, hb, by omega⟩
  rintro ⟨ρ, σ, k⟩ ⟨n, y, h0, h2, hy, hb, hn, rfl, rfl⟩
  dsimp only at h0 h2
  have h8 : bl y ≤ 8 := bl_le hy
  refine v_reg ?_
  simp only [vm, ite_true, ite_false, eq_self, reduceIte, Nat.reduceEqDiff, Option.map, h0, h2, Nat.mod_eq_of_lt hy]
  rw [six_tab (blTab_at (by decide +kernel) hy)]
  simp only [vm, ite_true, ite_false, eq_self, reduceIte, Nat.reduceEqDiff, Option.map, h0, h2, c_8i (n := bl y) (by omega)]
  refine ⟨by omega, vwp_ret ?_⟩
  simp only [vm, ite_true, ite_false, eq_self, reduceIte, Nat.reduceEqDiff, Option.map]
  refine ⟨Nat.le_refl _, ?_⟩
  rw [hb]; rfl

theorem length_spec (t : Tok) (l : List Nat) (c : Nat) (hl : Lim 18446744073709551616 l) (hn : l.length ≤ 4398046511104) : VSpec Try.prog F.nat_Length c [nats t l] (fun r _ => r = iv (bl (val 18446744073709551616 l))) := by
  refine sG hm G.nat_Length ?_
  unfold C.nat_Length R.nat_Length cD
  refine v_reg ?_
  simp only [vm, ite_true, ite_false, eq_self, reduceIte, Nat.reduceEqDiff, Option.map]
  refine v_reg ?_
  simp only [vm, ite_true, ite_false, eq_self, reduceIte, Nat.reduceEqDiff, Option.map]
  refine s_call (trim_spec t l c hl hn) (by simp only [vm, ite_true, ite_false, eq_self, reduceIte, Nat.reduceEqDiff, Option.map, List.map]) ?_
  rintro v c' hc rfl
  have hlen := digs_len_le two64 hl
  simp only [vm, ite_true, ite_false, eq_self, reduceIte, Nat.reduceEqDiff, Option.map]
  refine vwp_seq (v_reg ?_)
  simp only [vm, ite_true, ite_false, eq_self, reduceIte, Nat.reduceEqDiff, Option.map]
  refine v_cond ?_
  simp only [vm, ite_true, ite_false, eq_self, reduceIte, Nat.reduceEqDiff, Option.map]
  refine ⟨fun g => v_reg ?_, fun g => vwp_skip ?_⟩
  · simp only [vm, ite_true, ite_false, eq_self, reduceIte, Nat.reduceEqDiff, Option.map]
    refine vwp_ret ?_
    simp only [vm, ite_true, ite_false, eq_self, reduceIte, Nat.reduceEqDiff, Option.map]
    have e : digs 18446744073709551616 (val 18446744073709551616 l) = [] := List.eq_nil_of_length_eq_zero (by omega)
    rw [(digs_eq_nil two64).1 e]
    exact ⟨hc, rfl⟩
  · simp only [vm, ite_true, ite_false, eq_self, reduceIte, Nat.reduceEqDiff, Option.map]
    obtain ⟨m, x, e⟩ := snoc_of_ne (l := digs 18446744073709551616 (val 18446744073709551616 l)) (fun e => g (by rw [e]; rfl))
    obtain ⟨h1, h2, h3⟩ := bl_digs64 e
    rw [e] at hlen ⊢
    have e1 : ((m ++ [x]).length - 1 : Int).toNat = m.length := by simp
    have e2 : (m ++ [x]).length = m.length + 1 := by simp
    refine v_reg ?_
    simp only [vm, ite_true, ite_false, eq_self, reduceIte, Nat.reduceEqDiff, Option.map, e1, getD_snoc]
    refine ⟨by omega, by omega, by omega, by omega, by omega, ?_⟩
    refine s_call (len64_spec x c' h2) (by simp only [vm, ite_true, ite_false, eq_self, reduceIte, Nat.reduceEqDiff, Option.map, List.map]) ?_
    rintro v c2 hc2 rfl
    have h8 : bl x ≤ 64 := bl_le h2
    simp only [vm, ite_true, ite_false, eq_self, reduceIte, Nat.reduceEqDiff, Option.map]
    refine ⟨by omega, vwp_ret ?_⟩
    simp only [vm, ite_true, ite_false, eq_self, reduceIte, Nat.reduceEqDiff, Option.map]
    refine ⟨by omega, ?_⟩
    congr 2
    omega

theorem lz64_spec (x c : Nat) (hx : x < 18446744073709551616) : VSpec Try.prog F.bits_LeadingZeros64 c [nv x] (fun r _ => r = iv (64 - bl x)) := by
  refine sG hm G.bits_LeadingZeros64 ?_
  unfold C.bits_LeadingZeros64 R.bits_LeadingZeros64 cD
  have h8 : bl x ≤ 64 := bl_le hx
  refine v_reg ?_
  simp only [vm, ite_true, ite_false, eq_self, reduceIte, Nat.reduceEqDiff, Option.map]
  refine v_reg ?_
  simp only [vm, ite_true, ite_false, eq_self, reduceIte, Nat.reduceEqDiff, Option.map]
  refine s_call (len64_spec x c hx) (by simp only [vm, ite_true, ite_false, eq_self, reduceIte, Nat.reduceEqDiff, Option.map, List.map]) ?_
  rintro v c2 hc2 rfl
  simp only [vm, ite_true, ite_false, eq_self, reduceIte, Nat.reduceEqDiff, Option.map]
  refine ⟨by omega, vwp_ret ?_⟩
  simp only [vm, ite_true, ite_false, eq_self, reduceIte, Nat.reduceEqDiff, Option.map]
  exact hc2

theorem mul64_spec (x y c : Nat) (hx : x < 18446744073709551616) (hy : y < 18446744073709551616) : VSpec Try.prog F.bits_Mul64 c [nv x, nv y] (fun r _ => r = .tup [nv (x * y / 18446744073709551616), nv (x * y % 18446744073709551616)]) := by
  refine sG hm G.bits_Mul64 ?_
  unfold C.bits_Mul64 R.bits_Mul64 cD
  obtain ⟨h1, h2, h3, h4⟩ := Go.Lib.mul64_hi x y hx hy
  have hb : x * y < 18446744073709551616 * 18446744073709551616 := Nat.mul_lt_mul'' hx hy
  have h5 : x / 4294967296 * (y / 4294967296) < 18446744073709551616 := by
    have := Go.Lib.half_mul_le (a := x / 4294967296) (b := y / 4294967296) (by omega) (by omega)
    omega
  have h6 : x / 4294967296 * (y % 4294967296) < 18446744073709551616 := by
    have := Go.Lib.half_mul_le (a := x / 4294967296) (b := y % 4294967296) (by omega) (by omega)
    omega
  have h7 : x % 4294967296 * (y / 4294967296) < 18446744073709551616 := by
    have := Go.Lib.half_mul_le (a := x % 4294967296) (b := y / 4294967296) (by omega) (by omega)
    omega
  refine v_reg ?_
  simp only [vm, ite_true, ite_false, eq_self, reduceIte, Nat.reduceEqDiff, Option.map]
  refine v_reg ?_
  simp only [vm, ite_true, ite_false, eq_self, reduceIte, Nat.reduceEqDiff, Option.map]
  refine v_reg ?_
  simp only [vm, ite_true, ite_false, eq_self, reduceIte, Nat.reduceEqDiff, Option.map]
  refine v_reg ?_
  simp only [vm, ite_true, ite_false, eq_self, reduceIte, Nat.reduceEqDiff, Option.map]
  refine v_reg ?_
  simp only [vm, ite_true, ite_false, eq_self, reduceIte, Nat.reduceEqDiff, Option.map]
  refine v_reg ?_
  simp only [vm, ite_true, ite_false, eq_self, reduceIte, Nat.reduceEqDiff, Option.map, Nat.mod_eq_of_lt h1]
  refine v_reg ?_
  simp only [vm, ite_true, ite_false, eq_self, reduceIte, Nat.reduceEqDiff, Option.map, Nat.mod_eq_of_lt h6, Nat.mod_eq_of_lt h2]
  refine v_reg ?_
  simp only [vm, ite_true, ite_false, eq_self, reduceIte, Nat.reduceEqDiff, Option.map]
  refine v_reg ?_
  simp only [vm, ite_true, ite_false, eq_self, reduceIte, Nat.reduceEqDiff, Option.map]
  refine v_reg ?_
  simp only [vm, ite_true, ite_false, eq_self, reduceIte, Nat.reduceEqDiff, Option.map, Nat.mod_eq_of_lt h7, Nat.mod_eq_of_lt h3]
  refine v_reg ?_
  simp only [vm, ite_true, ite_false, eq_self, reduceIte, Nat.reduceEqDiff, Option.map, Nat.mod_eq_of_lt h5]
  refine v_reg ?_
  simp only [vm, ite_true, ite_false, eq_self, reduceIte, Nat.reduceEqDiff, Option.map]
  refine vwp_ret ?_
  simp only [vm, ite_true, ite_false, eq_self, reduceIte, Nat.reduceEqDiff, Option.map]
  refine ⟨Nat.le_refl _, ?_⟩
  rw [Nat.mod_add_mod, h4, Nat.mod_eq_of_lt (by omega)]

theorem told_spec (t : Tok) (l : List Nat) (c : Nat) (hl : Lim 18446744073709551616 l) (hn : l.length ≤ 4398046511104) : VSpec Try.prog F.nat_told c [nats t l]
    (fun r _ => r = if bl (val 18446744073709551616 l) ≤ 67108864 then .tup [nats t (digs 18446744073709551616 (val 18446744073709551616 l)), iv 0] else .tup [nil1, iv 3]) := by
  refine sG hm G.nat_told ?_
  unfold C.nat_told R.nat_told cD
  have hlen := digs_len_le two64 hl
  refine v_reg ?_
  simp only [vm, ite_true, ite_false, eq_self, reduceIte, Nat.reduceEqDiff, Option.map]
  refine v_reg ?_
  simp only [vm, ite_true, ite_false, eq_self, reduceIte, Nat.reduceEqDiff, Option.map]
  refine s_call (trim_spec t l c hl hn) (by simp only [vm, ite_true, ite_false, eq_self, reduceIte, Nat.reduceEqDiff, Option.map, List.map]) ?_
  rintro v c' hc rfl
  simp only [vm, ite_true, ite_false, eq_self, reduceIte, Nat.reduceEqDiff, Option.map]
  refine vwp_seq (v_reg ?_)
  simp only [vm, ite_true, ite_false, eq_self, reduceIte, Nat.reduceEqDiff, Option.map]
  refine s_call (length_spec t (digs 18446744073709551616 (val 18446744073709551616 l)) c' (lim_digs two64 _) (by omega)) (by simp only [vm, ite_true, ite_false, eq_self, reduceIte, Nat.reduceEqDiff, Option.map, List.map]) ?_
  rintro v c2 hc2 rfl
  simp only [vm, ite_true, ite_false, eq_self, reduceIte, Nat.reduceEqDiff, Option.map, val_digs two64]
  refine v_cond ?_
  simp only [vm, ite_true, ite_false, eq_self, reduceIte, Nat.reduceEqDiff, Option.map]
  refine ⟨fun g => v_reg ?_, fun g => vwp_skip ?_⟩
  · simp only [vm, ite_true, ite_false, eq_self, reduceIte, Nat.reduceEqDiff, Option.map]
    refine vwp_ret ?_
    simp only [vm, ite_true, ite_false, eq_self, reduceIte, Nat.reduceEqDiff, Option.map]
    exact ⟨by omega, by rw [if_neg (by omega)]⟩
  · simp only [vm, ite_true, ite_false, eq_self, reduceIte, Nat.reduceEqDiff, Option.map]
    refine v_reg ?_
    simp only [vm, ite_true, ite_false, eq_self, reduceIte, Nat.reduceEqDiff, Option.map]
    refine vwp_ret ?_
    simp only [vm, ite_true, ite_false, eq_self, reduceIte, Nat.reduceEqDiff, Option.map]
    exact ⟨by omega, by rw [if_pos (by omega)]⟩

def cmpI (a b : Nat) : Int := if a < b then -1 else if a = b then 0 else 1

theorem compare_spec (t u : Tok) (a b : List Nat) (c : Nat) (ha : Lim 18446744073709551616 a) (hb : Lim 18446744073709551616 b) (hna : a.length ≤ 1099511627776) (hnb : b.length ≤ 1099511627776) : VSpec Try.prog F.nat_Compare c [nats t a, nats u b] (fun r _ => r = iv (cmpI (val 18446744073709551616 a) (val 18446744073709551616 b))) := by
  refine sG hm G.nat_Compare ?_
  unfold C.nat_Compare R.nat_Compare cD
  have hla := digs_len_le two64 ha
  have hlb := digs_len_le two64 hb
  have hda := lim_digs two64 (val 18446744073709551616 a)
  have hdb := lim_digs two64 (val 18446744073709551616 b)
  refine v_reg ?_
  simp only [vm, ite_true, ite_false, eq_self, reduceIte, Nat.reduceEqDiff, Option.map]
  refine v_reg ?_
  simp only [vm, ite_true, ite_false, eq_self, reduceIte, Nat.reduceEqDiff, Option.map]
  refine s_call (trim_spec t a c ha (by omega)) (by simp only [vm, ite_true, ite_false, eq_self, reduceIte, Nat.reduceEqDiff, Option.map, List.map]) ?_
  rintro v c' hc rfl
  simp only [vm, ite_true, ite_false, eq_self, reduceIte, Nat.reduceEqDiff, Option.map]
  refine s_call (trim_spec u b c' hb (by omega)) (by simp only [vm, ite_true, ite_false, eq_self, reduceIte, Nat.reduceEqDiff, Option.map, List.map]) ?_
  rintro v c2 hc2 rfl
  have va := val_digs two64 (val 18446744073709551616 a)
  have vb := val_digs two64 (val 18446744073709551616 b)
  have hlt := lt_of_len two64 (m := val 18446744073709551616 a) (n := val 18446744073709551616 b)
  have hgt := lt_of_len two64 (m := val 18446744073709551616 b) (n := val 18446744073709551616 a)
  generalize digs 18446744073709551616 (val 18446744073709551616 a) = x at *
  generalize digs 18446744073709551616 (val 18446744073709551616 b) = y at *
  generalize val 18446744073709551616 a = m at *
  generalize val 18446744073709551616 b = n at *
  simp only [vm, ite_true, ite_false, eq_self, reduceIte, Nat.reduceEqDiff, Option.map]
  refine vwp_seq (v_reg ?_)
  simp only [vm, ite_true, ite_false, eq_self, reduceIte, Nat.reduceEqDiff, Option.map]
  refine v_cond ?_
  simp only [vm, ite_true, ite_false, eq_self, reduceIte, Nat.reduceEqDiff, Option.map]
  refine ⟨fun g => vwp_seq (v_reg ?_), fun g => vwp_skip ?_⟩
  · simp only [vm, ite_true, ite_false, eq_self, reduceIte, Nat.reduceEqDiff, Option.map]
    refine v_cond ?_
    simp only [vm, ite_true, ite_false, eq_self, reduceIte, Nat.reduceEqDiff, Option.map]
    refine ⟨fun g2 => v_reg ?_, fun g2 => vwp_skip ?_⟩
    · simp only [vm, ite_true, ite_false, eq_self, reduceIte, Nat.reduceEqDiff, Option.map]
      refine vwp_ret ?_
      simp only [vm, ite_true, ite_false, eq_self, reduceIte, Nat.reduceEqDiff, Option.map]
      exact ⟨by omega, by rw [cmpI, if_pos (hlt (by omega))]⟩
    · simp only [vm, ite_true, ite_false, eq_self, reduceIte, Nat.reduceEqDiff, Option.map]
      refine v_reg ?_
      simp only [vm, ite_true, ite_false, eq_self, reduceIte, Nat.reduceEqDiff, Option.map]
      refine vwp_ret ?_
      simp only [vm, ite_true, ite_false, eq_self, reduceIte, Nat.reduceEqDiff, Option.map]
      have := hgt (by omega)
      exact ⟨by omega, by rw [cmpI, if_neg (by omega), if_neg (by omega)]⟩
  · simp only [vm, ite_true, ite_false, eq_self, reduceIte, Nat.reduceEqDiff, Option.map]
    have hxy : x.length = y.length := by omega
    refine vwp_seq (v_reg ?_)
    simp only [vm, ite_true, ite_false, eq_self, reduceIte, Nat.reduceEqDiff, Option.map]
    refine ⟨by omega, vwp_block (vwp_loop (fun k S => S.ρ 0 = nats t x ∧ S.ρ 1 = nats u y ∧ S.ρ 5 = iv ((k : Int) - 1) ∧ k ≤ x.length ∧ val 18446744073709551616 (x.drop k) = val 18446744073709551616 (y.drop k) ∧ S.σ = noBlk ∧ S.c = c2) x.length ⟨rfl, rfl, rfl, Nat.le_refl _, ?_, rfl, rfl⟩ ?_)⟩
    · rw [List.drop_of_length_le (Nat.le_refl _), hxy, List.drop_of_length_le (Nat.le_refl _)]
    rintro k ⟨ρ, σ, c3⟩ ⟨h0, h1, h5, hk, hv, hσ, hc3⟩
    dsimp only at h0 h1 h5 hσ hc3
    subst hσ hc3
    refine xGF (jn h0 (jn h1 h5)) ?_
    refine xG ?_
    refine ⟨fun g3 => ?_, fun g3 => ?_⟩
    · refine xG ?_
      obtain ⟨i, rfl⟩ : ∃ i, k = i + 1 := ⟨k - 1, by omega⟩
      have e1 : (((i + 1 : Nat) : Int) - 1).toNat = i := by omega
      refine xGF (jn h0 (jn h1 (jn h5 e1))) ?_
      refine ⟨by omega, by omega, by omega, by omega, ?_⟩
      refine xG ?_
      refine ⟨fun g4 => ?_, fun g4 => ?_⟩
      · refine xG ?_
        refine xG ?_
        have := val_lt_of_top two64 hda hdb (i := i) (by omega) (by omega) hxy hv g4
        exact ⟨by omega, by rw [cmpI, if_pos (by omega)]⟩
      · refine xG ?_
        refine xGF (jn h0 (jn h1 (jn h5 e1))) ?_
        refine ⟨by omega, by omega, by omega, by omega, ?_⟩
        refine xG ?_
        refine ⟨fun g5 => ?_, fun g5 => ?_⟩
        · refine xG ?_
          refine xG ?_
          have := val_lt_of_top two64 hdb hda (i := i) (by omega) (by omega) hxy.symm hv.symm g5
          exact ⟨by omega, by rw [cmpI, if_neg (by omega), if_neg (by omega)]⟩
        · refine xG ?_
          refine xGF (jn h0 (jn h1 h5)) ?_
          refine ⟨by omega, i, by omega, congrArg iv (by omega), by omega, ?_⟩
          rw [val_drop (l := x) (i := i) (by omega), val_drop (l := y) (i := i) (by omega), hv, show x.getD i 0 = y.getD i 0 by omega]
    · refine xG ?_
      refine xG ?_
      refine xG ?_
      have hk0 : k = 0 := by omega
      subst hk0
      rw [List.drop_zero, List.drop_zero] at hv
      exact ⟨by omega, by rw [cmpI, if_neg (by omega), if_pos (by omega)]⟩

def Told (c c' n : Nat) (v : V) : Prop := (bl n ≤ 67108864 ∧ ∃ t, v = .tup [nats t (digs 18446744073709551616 n), iv 0] ∧ Tk c c' t) ∨ (67108864 < bl n ∧ v = .tup [nil1, iv 3])

theorem add_spec (t u : Tok) (a b : List Nat) (c : Nat) (ha : Lim 18446744073709551616 a) (hb : Lim 18446744073709551616 b) (hna : a.length ≤ 1099511627776) (hnb : b.length ≤ 1099511627776) :
    VSpec Try.prog F.nat_Add c [nats t a, nats u b] (fun r c' => Told c c' (val 18446744073709551616 a + val 18446744073709551616 b) r) := by
  refine sG hm G.nat_Add ?_
  unfold C.nat_Add R.nat_Add cD
  have hla := digs_len_le two64 ha
  have hlb := digs_len_le two64 hb
  have hda := lim_digs two64 (val 18446744073709551616 a)
  have hdb := lim_digs two64 (val 18446744073709551616 b)
  have va := val_digs two64 (val 18446744073709551616 a)
  have vb := val_digs two64 (val 18446744073709551616 b)
  refine xG ?_
  refine xG ?_
  refine s_call (trim_spec t a c ha (by omega)) yM ?_
  rintro v c' hc rfl
  refine xS ?_
  refine s_call (trim_spec u b c' hb (by omega)) yM ?_
  rintro v c2 hc2 rfl
  refine xS ?_
  refine v_cut (fun S => ∃ t u x y, S.ρ 0 = nats t x ∧ S.ρ 1 = nats u y ∧ S.ρ 4 = nil1 ∧ S.ρ 5 = iv 0 ∧ Lim 18446744073709551616 x ∧ Lim 18446744073709551616 y ∧ y.length ≤ x.length ∧ x.length ≤ 1099511627776 ∧ val 18446744073709551616 x + val 18446744073709551616 y = val 18446744073709551616 a + val 18446744073709551616 b ∧ S.σ = noBlk ∧ S.c = c2) ?_ ?_
  · refine xG ?_
    refine xG ?_
    refine ⟨fun g => ?_, fun g => ?_⟩
    · refine xG ?_
      exact ⟨u, t, _, _, rfl, rfl, hdb, hda, by omega, by omega, by omega⟩
    · refine vwp_skip ?_
      refine xS ?_
      exact ⟨t, u, _, _, rfl, rfl, hda, hdb, by omega, by omega, by omega⟩
  rintro ⟨ρ, σ, c3⟩ ⟨t, u, x, y, h0, h1, h4, h5, hx, hy, hxy, hxn, hv, hσ, hc3⟩
  dsimp only at h0 h1 h4 h5 hσ hc3
  subst hσ hc3
  refine xGF (jn h0 h1) ?_
  refine ⟨by omega, ?_⟩
  refine s_mk (n := x.length + 1) (m := x.length + 1) ySr ySr (Nat.le_refl _) (by omega) ?_
  refine xS ?_
  refine xG ?_
  refine xGF (jn h0 h1) ?_
  (repeat (first | refine vwp_seq ?_ | refine vwp_block ?_))
  refine vwp_loop (fun k S => ∃ i w carry, k = x.length - i ∧ i ≤ x.length ∧ S.ρ 0 = nats t x ∧ S.ρ 1 = nats u y ∧ S.ρ 6 = .buf c3 0 (x.length + 1) (some (x.length + 1)) 1 ∧ S.ρ 7 = nv carry ∧ S.ρ 26 = iv x.length ∧ S.ρ 27 = iv i ∧ carry ≤ 1 ∧
    w.length = i ∧ Lim 18446744073709551616 w ∧ val 18446744073709551616 w + 18446744073709551616 ^ i * carry = val 18446744073709551616 (x.take i) + val 18446744073709551616 (y.take i) ∧ S.σ = supd noBlk c3 (nblk (w ++ List.replicate (x.length + 1 - i) 0)) ∧ S.c = c3 + 1) x.length ?_ ?_
  · refine ⟨0, [], 0, rfl, Nat.zero_le _, ?_⟩
    refine xSF (jn h0 h1) ?_
    exact ⟨rfl, by omega, rfl, .nil, rfl, rfl⟩
  rintro k ⟨ρ2, σ, c4⟩ ⟨i, w, carry, hk, hi, h0, h1, h6, h7, h26, h27, hca, hw, hlw, hinv, hσ, hc4⟩
  dsimp only at h0 h1 h6 h7 h26 h27 hσ hc4
  subst hσ hc4
  refine xGF (jn h26 h27) ?_
  refine xG ?_
  refine ⟨fun g => ?_, fun g => ?_⟩
  · have hi' : i < x.length := by omega
    have hlen : (w ++ List.replicate (x.length + 1 - i) 0).length = x.length + 1 := by simp; omega
    have hset : ∀ v, (w ++ List.replicate (x.length + 1 - i) 0).set i v = (w ++ [v]) ++ List.replicate (x.length + 1 - (i + 1)) 0 := fun v => by
      have := set_fill w (x.length - i) v
      rw [hw] at this
      rw [show x.length + 1 - i = x.length - i + 1 by omega, this, show x.length + 1 - (i + 1) = x.length - i by omega]
    have hxi := hx.getD (i := i) (by decide)
    have hyi := hy.getD (i := i) (by decide)
    have key := add_step (b := 18446744073709551616) (m := x.getD i 0 + y.getD i 0) hw hinv
    rw [Nat.mul_add] at key
    have hx' := val_take' 18446744073709551616 x i
    have hy' := val_take' 18446744073709551616 y i
    have hci : (x.getD i 0 + y.getD i 0 + carry) / 18446744073709551616 ≤ 1 := by omega
    refine xG ?_
    refine xGF (jn h0 (jn h1 (jn h6 (jn h7 (jn h26 h27))))) ?_
    refine xG ?_
    by_cases g2 : (i : Int) < (y.length : Int)
    · refine xGF (jn h0 (jn h1 (jn h6 (jn h7 (jn h26 (jn h27 g2)))))) ?_
      refine xG ?_
      refine xGF (jn h0 (jn h1 (jn h6 (jn h7 (jn h26 (jn h27 g2)))))) ?_
      refine ⟨by omega, by omega, ?_⟩
      refine xGF (jn h0 (jn h1 (jn h6 (jn h7 (jn h26 (jn h27 (jn g2 (jn hlen hset)))))))) ?_
      (repeat refine And.intro (by omega) ?_)
      refine xGF (jn h0 (jn h1 (jn h6 (jn h7 (jn h26 (jn h27 (jn g2 (jn hlen hset)))))))) ?_
      refine ⟨by omega, x.length - (i + 1), by omega, i + 1, w ++ [(x.getD i 0 + y.getD i 0 + carry) % 18446744073709551616], (x.getD i 0 + y.getD i 0 + carry) / 18446744073709551616, ?_⟩
      (repeat' apply And.intro) <;> first | rfl | omega | assumption | (simp [hw]; done) | exact lim_snoc hlw (Nat.mod_lt _ (by decide)) | (rw [key, hx', hy']; omega)
    · have hy0 : y.getD i 0 = 0 := getD_ge (by omega)
      refine xGF (jn h0 (jn h1 (jn h6 (jn h7 (jn h26 (jn h27 g2)))))) ?_
      refine xG ?_
      refine xG ?_
      refine xGF (jn h0 (jn h1 (jn h6 (jn h7 (jn h26 (jn h27 (jn g2 (jn hlen hset)))))))) ?_
      (repeat refine And.intro (by omega) ?_)
      refine xGF (jn h0 (jn h1 (jn h6 (jn h7 (jn h26 (jn h27 (jn g2 (jn hlen hset)))))))) ?_
      rw [hy0] at key hy' hci
      simp only [Nat.add_zero] at key hci
      refine ⟨by omega, x.length - (i + 1), by omega, i + 1, w ++ [(x.getD i 0 + carry) % 18446744073709551616], (x.getD i 0 + carry) / 18446744073709551616, ?_⟩
      (repeat' apply And.intro) <;> first | rfl | omega | assumption | (simp [hw]; done) | exact lim_snoc hlw (Nat.mod_lt _ (by decide)) | (rw [key, hx', hy']; omega)
  · have hi' : i = x.length := by omega
    subst hi'
    have hset := set_fill w 0 carry
    rw [hw] at hset
    have hlen : (w ++ List.replicate (0 + 1) 0).length = x.length + 1 := by simp; omega
    rw [show x.length + 1 - x.length = 0 + 1 by omega] at *
    refine xG ?_
    refine xGF (jn h0 (jn h1 (jn h6 (jn h7 (jn h26 (jn h27 (jn hlen hset))))))) ?_
    refine ⟨by omega, by omega, ?_⟩
    have e0 : w ++ [carry] ++ List.replicate 0 0 = w ++ [carry] := by simp
    rw [e0]
    have hlz : Lim 18446744073709551616 (w ++ [carry]) := lim_snoc hlw (by omega)
    have hvz : val 18446744073709551616 (w ++ [carry]) = val 18446744073709551616 a + val 18446744073709551616 b := by
      rw [val_append, hw]
      simp only [val, Nat.mul_zero, Nat.add_zero]
      rw [hinv, List.take_length, val_take_all _ _ _ hxy, hv]
    have hnz : (w ++ [carry]).length = x.length + 1 := by simp; omega
    refine v_freeze 6 (t := c3) (off := 0) (n := x.length + 1) (cap := some (x.length + 1)) (l := w ++ [carry]) (ySF h6) yS (by omega) (by omega) ?_
    rw [List.drop_zero, show (w ++ [carry]).take (x.length + 1) = w ++ [carry] from List.take_of_length_le (by omega)]
    refine xG ?_
    refine s_call (told_spec (.id c3) (w ++ [carry]) (c3 + 1) hlz (by omega)) yM ?_
    rintro v c5 hc5 rfl
    rw [hvz]
    by_cases gb : bl (val 18446744073709551616 a + val 18446744073709551616 b) ≤ 67108864
    · rw [if_pos gb]
      refine xS ?_
      refine xG ?_
      exact ⟨by omega, .inl ⟨gb, .id c3, rfl, .inr ⟨c3, rfl, by omega, by omega⟩⟩⟩
    · rw [if_neg gb]
      refine xS ?_
      refine xG ?_
      exact ⟨by omega, .inr ⟨by omega, rfl⟩⟩

theorem sub_spec (t u : Tok) (a b : List Nat) (c : Nat) (ha : Lim 18446744073709551616 a) (hb : Lim 18446744073709551616 b) (hna : a.length ≤ 1099511627776) (hnb : b.length ≤ 1099511627776) :
    VSpec Try.prog F.nat_Sub c [nats t a, nats u b] (fun r c' => if val 18446744073709551616 a < val 18446744073709551616 b then r = .tup [nil1, iv 10] else Told c c' (val 18446744073709551616 a - val 18446744073709551616 b) r) := by
  refine sG hm G.nat_Sub ?_
  unfold C.nat_Sub R.nat_Sub cD
  have hla := digs_len_le two64 ha
  have hlb := digs_len_le two64 hb
  refine xG ?_
  refine xG ?_
  refine s_call (compare_spec t u a b c ha hb hna hnb) yM ?_
  rintro v c0 hc0 rfl
  refine xS ?_
  refine xG ?_
  have hcmp : cmpI (val 18446744073709551616 a) (val 18446744073709551616 b) < 0 ↔ val 18446744073709551616 a < val 18446744073709551616 b := by unfold cmpI; split <;> (try split) <;> omega
  refine ⟨fun g => ?_, fun g => ?_⟩
  · rw [hcmp] at g
    refine xG ?_
    refine xG ?_
    exact ⟨hc0, by rw [if_pos g]; trivial⟩
  rw [hcmp] at g
  simp only [if_neg g]
  refine xG ?_
  refine xG ?_
  refine s_call (trim_spec t a c0 ha (by omega)) yM ?_
  rintro v c1 hc1 rfl
  refine xS ?_
  refine s_call (trim_spec u b c1 hb (by omega)) yM ?_
  rintro v c2 hc2 rfl
  have hx := lim_digs two64 (val 18446744073709551616 a)
  have hy := lim_digs two64 (val 18446744073709551616 b)
  have va := val_digs two64 (val 18446744073709551616 a)
  have vb := val_digs two64 (val 18446744073709551616 b)
  have hxy : (digs 18446744073709551616 (val 18446744073709551616 b)).length ≤ (digs 18446744073709551616 (val 18446744073709551616 a)).length := le_len two64 (by omega)
  generalize digs 18446744073709551616 (val 18446744073709551616 a) = x at *
  generalize digs 18446744073709551616 (val 18446744073709551616 b) = y at *
  refine xS ?_
  refine xG ?_
  refine s_mk (n := x.length) (m := x.length) yS yS (Nat.le_refl _) (by omega) ?_
  refine xS ?_
  refine xG ?_
  refine xG ?_
  (repeat (first | refine vwp_seq ?_ | refine vwp_block ?_))
  refine vwp_loop (fun k S => ∃ i w bo, k = x.length - i ∧ i ≤ x.length ∧ S.ρ 0 = nats t x ∧ S.ρ 1 = nats u y ∧ S.ρ 6 = .buf c2 0 x.length (some x.length) 1 ∧ S.ρ 7 = nv bo ∧ S.ρ 22 = iv x.length ∧ S.ρ 23 = iv i ∧ bo ≤ 1 ∧
    w.length = i ∧ Lim 18446744073709551616 w ∧ val 18446744073709551616 w + val 18446744073709551616 (y.take i) = val 18446744073709551616 (x.take i) + 18446744073709551616 ^ i * bo ∧ S.σ = supd noBlk c2 (nblk (w ++ List.replicate (x.length - i) 0)) ∧ S.c = c2 + 1) x.length ?_ ?_
  · refine ⟨0, [], 0, rfl, Nat.zero_le _, ?_⟩
    refine xS ?_
    (repeat' apply And.intro) <;> first | rfl | omega | assumption | exact Lim.nil
  rintro k ⟨ρ2, σ, c4⟩ ⟨i, w, bo, hk, hi, h0, h1, h6, h7, h22, h23, hbo, hw, hlw, hinv, hσ, hc4⟩
  dsimp only at h0 h1 h6 h7 h22 h23 hσ hc4
  subst hσ hc4
  refine xGF (jn h22 h23) ?_
  refine xG ?_
  refine ⟨fun g => ?_, fun g => ?_⟩
  · have hi' : i < x.length := by omega
    have hlen : (w ++ List.replicate (x.length - i) 0).length = x.length := by simp; omega
    have hset : ∀ v, (w ++ List.replicate (x.length - i) 0).set i v = (w ++ [v]) ++ List.replicate (x.length - (i + 1)) 0 := fun v => by
      have := set_fill w (x.length - (i + 1)) v
      rw [hw] at this
      rw [show x.length - i = x.length - (i + 1) + 1 by omega, this]
    have hxi := hx.getD (i := i) (by decide)
    have hyi := hy.getD (i := i) (by decide)
    have hx' := val_take' 18446744073709551616 x i
    have hy' := val_take' 18446744073709551616 y i
    have key := sub_step (b := 18446744073709551616) (c' := if x.getD i 0 < y.getD i 0 + bo then 1 else 0) (x := x.getD i 0) (y := y.getD i 0) (d := (x.getD i 0 + 18446744073709551616 - y.getD i 0 - bo) % 18446744073709551616) hw hinv (by split <;> omega)
    have hb1 : (if x.getD i 0 < y.getD i 0 + bo then 1 else 0) ≤ 1 := by split <;> omega
    rw [← hx', ← hy'] at key
    refine xG ?_
    refine xGF (jn h0 (jn h1 (jn h6 (jn h7 (jn h22 h23))))) ?_
    refine xG ?_
    by_cases g2 : (i : Int) < (y.length : Int)
    · refine xGF (jn h0 (jn h1 (jn h6 (jn h7 (jn h22 (jn h23 g2)))))) ?_
      refine xG ?_
      refine xGF (jn h0 (jn h1 (jn h6 (jn h7 (jn h22 (jn h23 g2)))))) ?_
      (repeat refine And.intro (by omega) ?_)
      refine xGF (jn h0 (jn h1 (jn h6 (jn h7 (jn h22 (jn h23 (jn g2 (jn hlen hset)))))))) ?_
      (repeat refine And.intro (by omega) ?_)
      refine xGF (jn h0 (jn h1 (jn h6 (jn h7 (jn h22 (jn h23 (jn g2 (jn hlen hset)))))))) ?_
      refine ⟨by omega, x.length - (i + 1), by omega, i + 1, w ++ [(x.getD i 0 + 18446744073709551616 - y.getD i 0 - bo) % 18446744073709551616], if x.getD i 0 < y.getD i 0 + bo then 1 else 0, ?_⟩
      (repeat' apply And.intro) <;> first | rfl | omega | assumption | (simp [hw]; done) | exact lim_snoc hlw (Nat.mod_lt _ (by decide)) | exact key
    · have hy0 : y.getD i 0 = 0 := getD_ge (by omega)
      rw [hy0] at key hb1
      refine xGF (jn h0 (jn h1 (jn h6 (jn h7 (jn h22 (jn h23 g2)))))) ?_
      refine xG ?_
      refine xG ?_
      refine xGF (jn h0 (jn h1 (jn h6 (jn h7 (jn h22 (jn h23 (jn g2 (jn hlen hset)))))))) ?_
      (repeat refine And.intro (by omega) ?_)
      refine xGF (jn h0 (jn h1 (jn h6 (jn h7 (jn h22 (jn h23 (jn g2 (jn hlen hset)))))))) ?_
      refine ⟨by omega, x.length - (i + 1), by omega, i + 1, w ++ [(x.getD i 0 + 18446744073709551616 - 0 - bo) % 18446744073709551616], if x.getD i 0 < 0 + bo then 1 else 0, ?_⟩
      simp only [Nat.zero_add] at key hb1 ⊢
      (repeat' apply And.intro) <;> first | rfl | omega | assumption | (simp [hw]; done) | exact lim_snoc hlw (Nat.mod_lt _ (by decide)) | exact key
  · have hi' : i = x.length := by omega
    subst hi'
    have e0 : w ++ List.replicate (x.length - x.length) 0 = w := by simp
    rw [e0]
    rw [List.take_length, val_take_all _ _ _ hxy, va, vb] at hinv
    have hwl := val_lt hlw
    rw [hw] at hwl
    have hvz : val 18446744073709551616 w = val 18446744073709551616 a - val 18446744073709551616 b := by
      have hbb : bo = 0 ∨ bo = 1 := by omega
      rcases hbb with rfl | rfl <;> omega
    refine xG ?_
    refine v_freeze 6 (t := c2) (off := 0) (n := x.length) (cap := some x.length) (l := w) (ySF h6) yS (by omega) (by omega) ?_
    rw [List.drop_zero, show w.take x.length = w from List.take_of_length_le (by omega)]
    refine xG ?_
    refine s_call (told_spec (.id c2) w (c2 + 1) hlw (by omega)) yM ?_
    rintro v c5 hc5 rfl
    rw [hvz]
    by_cases gb : bl (val 18446744073709551616 a - val 18446744073709551616 b) ≤ 67108864
    · rw [if_pos gb]
      refine xS ?_
      refine xG ?_
      exact ⟨by omega, .inl ⟨gb, .id c2, rfl, .inr ⟨c2, rfl, by omega, by omega⟩⟩⟩
    · rw [if_neg gb]
      refine xS ?_
      refine xG ?_
      exact ⟨by omega, .inr ⟨by omega, rfl⟩⟩

theorem times_spec (t : Tok) (a : List Nat) (m c : Nat) (ha : Lim 18446744073709551616 a) (hml : m < 18446744073709551616) (hna : a.length ≤ 1099511627776) :
    VSpec Try.prog F.nat_Times c [nats t a, nv m] (fun r c' => Told c c' (val 18446744073709551616 a * m) r) := by
  refine sG hm G.nat_Times ?_
  unfold C.nat_Times R.nat_Times cD
  have hla := digs_len_le two64 ha
  refine xG ?_
  refine xG ?_
  refine s_call (trim_spec t a c ha (by omega)) yM ?_
  rintro v c2 hc2 rfl
  have hx := lim_digs two64 (val 18446744073709551616 a)
  have va := val_digs two64 (val 18446744073709551616 a)
  generalize digs 18446744073709551616 (val 18446744073709551616 a) = x at *
  refine xS ?_
  refine xG ?_
  refine ⟨by omega, ?_⟩
  refine s_mk (n := x.length + 1) (m := x.length + 1) ySr ySr (Nat.le_refl _) (by omega) ?_
  refine xS ?_
  refine xG ?_
  refine xG ?_
  (repeat (first | refine vwp_seq ?_ | refine vwp_block ?_))
  refine vwp_loop (fun k S => ∃ i w carry, k = x.length - i ∧ i ≤ x.length ∧ S.ρ 0 = nats t x ∧ S.ρ 1 = nv m ∧ S.ρ 20 = nats t x ∧ S.ρ 6 = .buf c2 0 (x.length + 1) (some (x.length + 1)) 1 ∧ S.ρ 7 = nv carry ∧ S.ρ 21 = iv x.length ∧ S.ρ 22 = iv i ∧ carry < 18446744073709551616 ∧
    w.length = i ∧ Lim 18446744073709551616 w ∧ val 18446744073709551616 w + 18446744073709551616 ^ i * carry = val 18446744073709551616 (x.take i) * m ∧ S.σ = supd noBlk c2 (nblk (w ++ List.replicate (x.length + 1 - i) 0)) ∧ c2 + 1 ≤ S.c) x.length ?_ ?_
  · refine ⟨0, [], 0, rfl, Nat.zero_le _, ?_⟩
    refine xS ?_
    (repeat' apply And.intro) <;> first | rfl | omega | assumption | exact Lim.nil | (simp [val])
  rintro k ⟨ρ2, σ, c4⟩ ⟨i, w, carry, hk, hi, h0, h1, h20, h6, h7, h21, h22, hca, hw, hlw, hinv, hσ, hc4⟩
  dsimp only at h0 h1 h20 h6 h7 h21 h22 hσ hc4
  subst hσ
  refine xGF (jn h21 h22) ?_
  refine xG ?_
  refine ⟨fun g => ?_, fun g => ?_⟩
  · have hi' : i < x.length := by omega
    have hlen : (w ++ List.replicate (x.length + 1 - i) 0).length = x.length + 1 := by simp; omega
    have hset : ∀ v, (w ++ List.replicate (x.length + 1 - i) 0).set i v = (w ++ [v]) ++ List.replicate (x.length + 1 - (i + 1)) 0 := fun v => by
      have := set_fill w (x.length - i) v
      rw [hw] at this
      rw [show x.length + 1 - i = x.length - i + 1 by omega, this, show x.length + 1 - (i + 1) = x.length - i by omega]
    have hxi := hx.getD (i := i) (by decide)
    have hx' := val_take' 18446744073709551616 x i
    have key := add_step (b := 18446744073709551616) (m := x.getD i 0 * m) hw hinv
    obtain ⟨e1, e2⟩ := mul_step (x.getD i 0) m carry
    have e3 := mul_step_lt hxi hml hca
    refine xG ?_
    refine xGF (jn h0 (jn h1 (jn h20 (jn h6 (jn h7 (jn h21 h22)))))) ?_
    (repeat refine And.intro (by omega) ?_)
    refine xG ?_
    refine s_call (mul64_spec (x.getD i 0) m c4 hxi hml) (yMF h1) ?_
    rintro v c5 hc5 rfl
    refine xSF (jn h0 (jn h1 (jn h20 (jn h6 (jn h7 (jn h21 h22)))))) ?_
    refine xGF (jn h0 (jn h1 (jn h20 (jn h6 (jn h7 (jn h21 h22)))))) ?_
    refine ⟨by omega, ?_⟩
    simp only [Nat.add_zero, e1]
    refine xGF (jn h0 (jn h1 (jn h20 (jn h6 (jn h7 (jn h21 (jn h22 (jn hlen hset)))))))) ?_
    (repeat refine And.intro (by omega) ?_)
    refine xGF (jn h0 (jn h1 (jn h20 (jn h6 (jn h7 (jn h21 (jn h22 (jn hlen hset)))))))) ?_
    rw [e2, Nat.mod_eq_of_lt e3]
    refine xGF h22 ?_
    refine ⟨by omega, x.length - (i + 1), by omega, i + 1, w ++ [(x.getD i 0 * m + carry) % 18446744073709551616], (x.getD i 0 * m + carry) / 18446744073709551616, ?_⟩
    (repeat' apply And.intro) <;> first | rfl | omega | assumption | (simp [hw]; done) | exact lim_snoc hlw (Nat.mod_lt _ (by decide)) | (rw [key, hx', Nat.add_mul, Nat.mul_assoc])
  · have hi' : i = x.length := by omega
    subst hi'
    have hset := set_fill w 0 carry
    rw [hw] at hset
    have hlen : (w ++ List.replicate (0 + 1) 0).length = x.length + 1 := by simp; omega
    rw [show x.length + 1 - x.length = 0 + 1 by omega] at *
    refine xG ?_
    refine xGF (jn h0 (jn h1 (jn h6 (jn h7 (jn h21 (jn h22 (jn hlen hset))))))) ?_
    (repeat refine And.intro (by omega) ?_)
    have e0 : w ++ [carry] ++ List.replicate 0 0 = w ++ [carry] := by simp
    rw [e0]
    have hlz : Lim 18446744073709551616 (w ++ [carry]) := lim_snoc hlw (by omega)
    have hvz : val 18446744073709551616 (w ++ [carry]) = val 18446744073709551616 a * m := by
      rw [val_append, hw]
      simp only [val, Nat.mul_zero, Nat.add_zero]
      rw [hinv, List.take_length, va]
    have hnz : (w ++ [carry]).length = x.length + 1 := by simp; omega
    refine v_freeze 6 (t := c2) (off := 0) (n := x.length + 1) (cap := some (x.length + 1)) (l := w ++ [carry]) (ySF h6) yS (by omega) (by omega) ?_
    rw [List.drop_zero, show (w ++ [carry]).take (x.length + 1) = w ++ [carry] from List.take_of_length_le (by omega)]
    refine xG ?_
    refine s_call (told_spec (.id c2) (w ++ [carry]) c4 hlz (by omega)) yM ?_
    rintro v c5 hc5 rfl
    rw [hvz]
    by_cases gb : bl (val 18446744073709551616 a * m) ≤ 67108864
    · rw [if_pos gb]
      refine xS ?_
      refine xG ?_
      exact ⟨by omega, .inl ⟨gb, .id c2, rfl, .inr ⟨c2, rfl, by omega, by omega⟩⟩⟩
    · rw [if_neg gb]
      refine xS ?_
      refine xG ?_
      exact ⟨by omega, .inr ⟨by omega, rfl⟩⟩

theorem div64_spec (hi lo y c : Nat) (hlo : lo < 18446744073709551616) (hy : y < 18446744073709551616) (hiy : hi < y) : VSpec Try.prog F.bits_Div64 c [nv hi, nv lo, nv y] (fun r _ => r = .tup [nv ((hi * 18446744073709551616 + lo) / y), nv ((hi * 18446744073709551616 + lo) % y)]) := by
  refine sG hm G.bits_Div64 ?_
  unfold C.bits_Div64 R.bits_Div64 cD
  have y0 : 0 < y := by omega
  have e1 : ¬ y = 0 := by omega
  have e2 : ¬ y ≤ hi := by omega
  (repeat (first | refine v_reg ?_ | refine v_last ?_ | refine vwp_seq ?_ | refine vwp_block ?_ | refine vwp_skip ?_ | refine vwp_exit ?_ | refine vwp_ret ?_ | refine v_cond ?_ | simp only [vm, ite_true, ite_false, eq_self, reduceIte, Nat.reduceEqDiff, Option.map, e1, e2] | refine And.intro (by omega) ?_))
  refine ⟨fun g => ?_, fun g => ?_⟩
  · (repeat (first | refine v_reg ?_ | refine v_last ?_ | refine vwp_seq ?_ | refine vwp_block ?_ | refine vwp_skip ?_ | refine vwp_exit ?_ | refine vwp_ret ?_ | refine v_cond ?_ | simp only [vm, ite_true, ite_false, eq_self, reduceIte, Nat.reduceEqDiff, Option.map, e1] | refine And.intro (by omega) ?_))
    subst g
    rw [Nat.zero_mul, Nat.zero_add, Nat.mod_eq_of_lt (Nat.lt_of_le_of_lt (Nat.div_le_self _ _) hlo)]
  (repeat (first | refine v_reg ?_ | refine v_last ?_ | refine vwp_seq ?_ | refine vwp_block ?_ | refine vwp_skip ?_ | refine vwp_exit ?_ | refine vwp_ret ?_ | refine v_cond ?_ | simp only [vm, ite_true, ite_false, eq_self, reduceIte, Nat.reduceEqDiff, Option.map] | refine And.intro (by omega) ?_))
  refine s_call (lz64_spec y c hy) (by simp only [vm, ite_true, ite_false, eq_self, reduceIte, Nat.reduceEqDiff, Option.map, List.map]) ?_
  rintro v c2 hc2 rfl
  have hbl : bl y ≤ 64 := bl_le hy
  have hbp := bl_pos y0
  obtain ⟨hv64, hv63⟩ := norm_shift y0 hy
  have es : ((64 : Int) - (bl y : Int)).toNat = 64 - bl y := by omega
  simp only [vm, ite_true, ite_false, eq_self, reduceIte, Nat.reduceEqDiff, Option.map, es]
  refine ⟨by omega, ?_⟩
  obtain ⟨hor, hN⟩ := shift_two (hi := hi) (lo := lo) (s := 64 - bl y) (by omega) hlo
  have hH := shift_lt (y := y) (by omega) hN
  generalize hsd : 64 - bl y = s at *
  have hmin : min s 64 = s := by omega
  have hs64 : (64 + (18446744073709551616 - s % 18446744073709551616)) % 18446744073709551616 = 64 - s := by omega
  have hmin2 : min (64 - s) 64 = 64 - s := by omega
  have hhs : hi * 2 ^ s < 18446744073709551616 := by
    refine Nat.lt_trans (Nat.mul_lt_mul_of_pos_right hiy (Nat.two_pow_pos s)) hv64
  have hos : lo / 2 ^ (64 - s) < 18446744073709551616 := Nat.lt_of_le_of_lt (Nat.div_le_self _ _) hlo
  (repeat (first | refine v_reg ?_ | refine v_last ?_ | refine vwp_seq ?_ | refine vwp_block ?_ | refine vwp_skip ?_ | refine vwp_exit ?_ | refine vwp_ret ?_ | refine v_cond ?_)); simp only [vm, ite_true, ite_false, eq_self, reduceIte, Nat.reduceEqDiff, Option.map, hmin, Nat.mod_eq_of_lt hv64]
  have hvd : 0 < y * 2 ^ s := by omega
  have hlast : ((hi * 18446744073709551616 + lo) * 2 ^ s) / (y * 2 ^ s) = (hi * 18446744073709551616 + lo) / y := Nat.mul_div_mul_right _ _ (Nat.two_pow_pos s)
  have hlastr : ((hi * 18446744073709551616 + lo) * 2 ^ s) % (y * 2 ^ s) = (hi * 18446744073709551616 + lo) % y * 2 ^ s := Nat.mul_mod_mul_right _ _ _
  rw [hN] at hlast hlastr
  have hHp : hi * 2 ^ s + lo / 2 ^ (64 - s) < 18446744073709551616 := Nat.lt_trans hH hv64
  (repeat (first | refine v_reg ?_ | refine v_last ?_ | refine vwp_seq ?_ | refine vwp_block ?_ | refine vwp_skip ?_ | refine vwp_exit ?_ | refine vwp_ret ?_ | refine v_cond ?_ | simp only [vm, ite_true, ite_false, eq_self, reduceIte, Nat.reduceEqDiff, Option.map, hmin, u_or, hs64, hmin2, Nat.mod_eq_of_lt hhs, Nat.mod_eq_of_lt hos, or_shift hor] | refine And.intro (by omega) ?_))
  generalize hi * 2 ^ s + lo / 2 ^ (64 - s) = H at *
  have hL := Nat.mod_lt (lo * 2 ^ s) (show 0 < 18446744073709551616 by decide)
  generalize lo * 2 ^ s % 18446744073709551616 = L at *
  generalize y * 2 ^ s = v at *
  have hv : v = v / 4294967296 * 4294967296 + v % 4294967296 := by omega
  have h1 : 2147483648 ≤ v / 4294967296 := by omega
  have h0 : v % 4294967296 < 4294967296 := by omega
  have h1b : v / 4294967296 < 4294967296 := by omega
  generalize v / 4294967296 = v1 at *
  generalize v % 4294967296 = v0 at *
  obtain ⟨k1, k2⟩ := kd_two (h := H) (l := L) hvd hL
  have hd1 : L / 4294967296 < 4294967296 := by omega
  have hd0 : L % 4294967296 < 4294967296 := by omega
  obtain ⟨l1, hl1⟩ : ∃ l1, L / 4294967296 = l1 := ⟨_, rfl⟩
  obtain ⟨l0, hl0⟩ : ∃ l0, L % 4294967296 = l0 := ⟨_, rfl⟩
  rw [hl1, hl0]
  rw [hl1] at hd1
  rw [hl0] at hd0
  rw [hl1, hl0] at k1 k2
  rw [hlast] at k1
  rw [hlastr] at k2
  clear hlast hlastr hN hl1 hl0
  have hfirst := kd_first hv h1 h0 hH
  have hdm := Nat.div_add_mod H v1
  rw [Nat.mul_comm] at hdm
  have hrm := Nat.mod_lt H (show 0 < v1 by omega)
  have hq0 : H / v1 % 18446744073709551616 = H / v1 := Nat.mod_eq_of_lt (Nat.lt_of_le_of_lt hfirst (by decide))
  rw [hq0, sub_mod64 (p := H / v1 * v1) (n := H) (by omega) hHp]
  have hQb := kd_lt (b := 4294967296) (by decide) hd1 hH
  have hrest := kd_rest (q := (H * 4294967296 + l1) / v) rfl hv64 hvd
  have hQ0 := kd_up (b := 4294967296) (n := H) (by decide) hd1 hv (by omega)
  obtain ⟨Q, hQd⟩ : ∃ Q, Q = (H * 4294967296 + l1) / v := ⟨_, rfl⟩
  rw [← hQd] at hQb hrest hQ0
  refine v_loop (fun S => S.ρ 2 = nv v ∧ S.ρ 8 = nv s ∧ S.ρ 9 = nv v1 ∧ S.ρ 10 = nv v0 ∧ S.ρ 11 = nv H ∧ S.ρ 13 = nv (l1) ∧ S.ρ 14 = nv (l0) ∧ S.ρ 15 = nv Q ∧ S.σ = noBlk ∧ S.c = c2) ?_ ?_
  · refine vwp_loop (fun k S => ∃ q r, k = q ∧ q * v1 + r = H ∧ Q ≤ q ∧ r < 4294967296 ∧ q ≤ 4294967297 ∧ S.ρ 2 = nv v ∧ S.ρ 8 = nv s ∧ S.ρ 9 = nv v1 ∧ S.ρ 10 = nv v0 ∧ S.ρ 11 = nv H ∧ S.ρ 13 = nv (l1) ∧ S.ρ 14 = nv (l0) ∧ S.ρ 15 = nv q ∧ S.ρ 16 = nv r ∧ S.σ = noBlk ∧ S.c = c2) (H / v1) ?_ ?_
    · refine ⟨H / v1, H - H / v1 * v1, rfl, ?_⟩
      simp only [vm, ite_true, ite_false, eq_self, reduceIte, Nat.reduceEqDiff, Option.map]
      exact yA
    rintro k ⟨ρ2, σ, c4⟩ ⟨q, r, hk, he, hQ, hr, hq, g2, g8, g9, g10, g11, g13, g14, g15, g16, hσ, hc4⟩
    dsimp only at g2 g8 g9 g10 g11 g13 g14 g15 g16 hσ hc4
    subst hσ hc4
    have hqv0 := kd_fit hq h0
    have hbr : 4294967296 * r < 18446744073709551616 := by omega
    have hbr2 : 4294967296 * r + l1 < 18446744073709551616 := by omega
    have hrv : r + v1 < 18446744073709551616 := by omega
    have hdec : 4294967296 ≤ q ∨ 4294967296 * r + l1 < q * v0 → Q < q := fun h => by
      have := kd_dec (by decide) hd1 hv (by omega) hH he h
      rw [← hQd] at this
      exact this
    have hend : ¬ 4294967296 ≤ q → ¬ 4294967296 * r + l1 < q * v0 → q = Q := fun h h' => by
      have := kd_le (u := l1) (b := 4294967296) (v0 := v0) (by decide) hv (by omega) he (by omega)
      rw [← hQd] at this
      omega
    have hnext : Q < q → 4294967296 ≤ r + v1 → q - 1 = Q := fun h h' => by
      have := kd_big (u := l1) (by decide) hv (by omega) h0 (kd_next (by omega) he) (by omega) h'
      rw [← hQd] at this
      omega
    have hstep : Q < q → (q - 1) * v1 + (r + v1) = H := fun h => kd_next (by omega) he
    by_cases gq : 4294967296 ≤ q
    · have hd := hdec (.inl gq)
      (repeat (first | refine v_reg ?_ | refine v_last ?_ | refine vwp_seq ?_ | refine vwp_block ?_ | refine vwp_skip ?_ | refine vwp_exit ?_ | refine vwp_ret ?_ | refine v_cond ?_ | simp only [vm, ite_true, ite_false, eq_self, reduceIte, Nat.reduceEqDiff, Option.map, g2, g8, g9, g10, g11, g13, g14, g15, g16, gq, dec_mod64 (show 0 < q by omega) (by omega), Nat.mod_eq_of_lt hrv] | refine And.intro (by omega) ?_))
      refine ⟨fun gr => ?_, fun gr => ?_⟩
      · have := hnext hd gr
        (repeat (first | refine v_reg ?_ | refine v_last ?_ | refine vwp_seq ?_ | refine vwp_block ?_ | refine vwp_skip ?_ | refine vwp_exit ?_ | refine vwp_ret ?_ | refine v_cond ?_ | simp only [vm, ite_true, ite_false, eq_self, reduceIte, Nat.reduceEqDiff, Option.map, g2, g8, g9, g10, g11, g13, g14, this] | refine And.intro (by omega) ?_))
      · (repeat (first | refine v_reg ?_ | refine v_last ?_ | refine vwp_seq ?_ | refine vwp_block ?_ | refine vwp_skip ?_ | refine vwp_exit ?_ | refine vwp_ret ?_ | refine v_cond ?_ | simp only [vm, ite_true, ite_false, eq_self, reduceIte, Nat.reduceEqDiff, Option.map, g2, g8, g9, g10, g11, g13, g14] | refine And.intro (by omega) ?_))

        refine ⟨q - 1, by omega, q - 1, r + v1, ?_⟩
        have := hstep hd
        exact yA
    · (repeat (first | refine v_reg ?_ | refine v_last ?_ | refine vwp_seq ?_ | refine vwp_block ?_ | refine vwp_skip ?_ | refine vwp_exit ?_ | refine vwp_ret ?_ | refine v_cond ?_ | simp only [vm, ite_true, ite_false, eq_self, reduceIte, Nat.reduceEqDiff, Option.map, g2, g8, g9, g10, g11, g13, g14, g15, g16, gq, Nat.mod_eq_of_lt hqv0, Nat.mod_eq_of_lt hbr, Nat.mod_eq_of_lt hbr2] | refine And.intro (by omega) ?_))
      refine ⟨fun g3 => ?_, fun g3 => ?_⟩
      · have hd := hdec (.inr g3)
        (repeat (first | refine v_reg ?_ | refine v_last ?_ | refine vwp_seq ?_ | refine vwp_block ?_ | refine vwp_skip ?_ | refine vwp_exit ?_ | refine vwp_ret ?_ | refine v_cond ?_ | simp only [vm, ite_true, ite_false, eq_self, reduceIte, Nat.reduceEqDiff, Option.map, g2, g8, g9, g10, g11, g13, g14, g15, g16, gq, dec_mod64 (show 0 < q by omega) (by omega), Nat.mod_eq_of_lt hrv] | refine And.intro (by omega) ?_))
        refine ⟨fun gr => ?_, fun gr => ?_⟩
        · have := hnext hd gr
          (repeat (first | refine v_reg ?_ | refine v_last ?_ | refine vwp_seq ?_ | refine vwp_block ?_ | refine vwp_skip ?_ | refine vwp_exit ?_ | refine vwp_ret ?_ | refine v_cond ?_ | simp only [vm, ite_true, ite_false, eq_self, reduceIte, Nat.reduceEqDiff, Option.map, g2, g8, g9, g10, g11, g13, g14, this] | refine And.intro (by omega) ?_))
        · (repeat (first | refine v_reg ?_ | refine v_last ?_ | refine vwp_seq ?_ | refine vwp_block ?_ | refine vwp_skip ?_ | refine vwp_exit ?_ | refine vwp_ret ?_ | refine v_cond ?_ | simp only [vm, ite_true, ite_false, eq_self, reduceIte, Nat.reduceEqDiff, Option.map, g2, g8, g9, g10, g11, g13, g14] | refine And.intro (by omega) ?_))
          refine ⟨q - 1, by omega, q - 1, r + v1, ?_⟩
          have := hstep hd
          exact yA
      · have := hend gq g3
        (repeat (first | refine v_reg ?_ | refine v_last ?_ | refine vwp_seq ?_ | refine vwp_block ?_ | refine vwp_skip ?_ | refine vwp_exit ?_ | refine vwp_ret ?_ | refine v_cond ?_ | simp only [vm, ite_true, ite_false, eq_self, reduceIte, Nat.reduceEqDiff, Option.map, g2, g8, g9, g10, g11, g13, g14, g15, this] | refine And.intro (by omega) ?_))
  rintro ⟨ρ2, σ, c4⟩ ⟨g2, g8, g9, g10, g11, g13, g14, g15, hσ, hc4⟩
  dsimp only at g2 g8 g9 g10 g11 g13 g14 g15 hσ hc4
  subst hσ hc4
  rw [← hQd] at k1
  have hR := Nat.mod_lt (H * 4294967296 + l1) hvd
  obtain ⟨R, hRd⟩ : ∃ R, R = (H * 4294967296 + l1) % v := ⟨_, rfl⟩
  rw [← hRd] at hrest k1 k2 hR
  (repeat (first | refine v_reg ?_ | refine v_last ?_ | refine vwp_seq ?_ | refine vwp_block ?_ | refine vwp_skip ?_ | refine vwp_exit ?_ | refine vwp_ret ?_ | refine v_cond ?_)); simp only [vm, ite_true, ite_false, eq_self, reduceIte, Nat.reduceEqDiff, Option.map, g2, g8, g9, g10, g11, g13, g14, g15, hrest]
  have hRp : R < 18446744073709551616 := Nat.lt_trans hR hv64
  have hfirst := kd_first hv h1 h0 hR
  have hdm := Nat.div_add_mod R v1
  rw [Nat.mul_comm] at hdm
  have hrm := Nat.mod_lt R (show 0 < v1 by omega)
  have hq0 : R / v1 % 18446744073709551616 = R / v1 := Nat.mod_eq_of_lt (Nat.lt_of_le_of_lt hfirst (by decide))
  have hne : ¬ v1 = 0 := by omega
  (repeat (first | refine v_reg ?_ | refine v_last ?_ | refine vwp_seq ?_ | refine vwp_block ?_ | refine vwp_skip ?_ | refine vwp_exit ?_ | refine vwp_ret ?_ | refine v_cond ?_ | simp only [vm, ite_true, ite_false, eq_self, reduceIte, Nat.reduceEqDiff, Option.map, g2, g8, g9, g10, g11, g13, g14, g15, ne_eq, hne, hq0, sub_mod64 (p := R / v1 * v1) (n := R) (by omega) hRp] | refine And.intro (by omega) ?_))
  have hTb := kd_lt (b := 4294967296) (by decide) hd0 hR
  have hrest2 := kd_rest (q := (R * 4294967296 + l0) / v) rfl hv64 hvd
  have hT0 := kd_up (b := 4294967296) (n := R) (by decide) hd0 hv (by omega)
  obtain ⟨T, hTd⟩ : ∃ T, T = (R * 4294967296 + l0) / v := ⟨_, rfl⟩
  rw [← hTd] at hTb hrest2 hT0 k1
  refine v_loop (fun S => S.ρ 2 = nv v ∧ S.ρ 8 = nv s ∧ S.ρ 14 = nv (l0) ∧ S.ρ 15 = nv Q ∧ S.ρ 17 = nv R ∧ S.ρ 18 = nv T ∧ S.σ = noBlk ∧ S.c = c4) ?_ ?_
  · refine vwp_loop (fun k S => ∃ q r, k = q ∧ q * v1 + r = R ∧ T ≤ q ∧ r < 4294967296 ∧ q ≤ 4294967297 ∧ S.ρ 2 = nv v ∧ S.ρ 8 = nv s ∧ S.ρ 9 = nv v1 ∧ S.ρ 10 = nv v0 ∧ S.ρ 14 = nv (l0) ∧ S.ρ 15 = nv Q ∧ S.ρ 17 = nv R ∧ S.ρ 18 = nv q ∧ S.ρ 16 = nv r ∧ S.σ = noBlk ∧ S.c = c4) (R / v1) ?_ ?_
    · refine ⟨R / v1, R - R / v1 * v1, rfl, ?_⟩
      simp only [vm, ite_true, ite_false, eq_self, reduceIte, Nat.reduceEqDiff, Option.map, g2, g8, g9, g10, g14, g15]
      exact yA
    rintro k ⟨ρ3, σ, c5⟩ ⟨q, r, hk, he, hQ, hr, hq, g2, g8, g9, g10, g14, g15, g17, g18, g16, hσ, hc5⟩
    dsimp only at g2 g8 g9 g10 g14 g15 g17 g18 g16 hσ hc5
    subst hσ hc5
    have hqv0 := kd_fit hq h0
    have hbr : 4294967296 * r < 18446744073709551616 := by omega
    have hbr2 : 4294967296 * r + l0 < 18446744073709551616 := by omega
    have hrv : r + v1 < 18446744073709551616 := by omega
    have hdec : 4294967296 ≤ q ∨ 4294967296 * r + l0 < q * v0 → T < q := fun h => by
      have := kd_dec (by decide) hd0 hv (by omega) hR he h
      rw [← hTd] at this
      exact this
    have hend : ¬ 4294967296 ≤ q → ¬ 4294967296 * r + l0 < q * v0 → q = T := fun h h' => by
      have := kd_le (u := l0) (b := 4294967296) (v0 := v0) (by decide) hv (by omega) he (by omega)
      rw [← hTd] at this
      omega
    have hnext : T < q → 4294967296 ≤ r + v1 → q - 1 = T := fun h h' => by
      have := kd_big (u := l0) (by decide) hv (by omega) h0 (kd_next (by omega) he) (by omega) h'
      rw [← hTd] at this
      omega
    have hstep : T < q → (q - 1) * v1 + (r + v1) = R := fun h => kd_next (by omega) he
    by_cases gq : 4294967296 ≤ q
    · have hd := hdec (.inl gq)
      (repeat (first | refine v_reg ?_ | refine v_last ?_ | refine vwp_seq ?_ | refine vwp_block ?_ | refine vwp_skip ?_ | refine vwp_exit ?_ | refine vwp_ret ?_ | refine v_cond ?_ | simp only [vm, ite_true, ite_false, eq_self, reduceIte, Nat.reduceEqDiff, Option.map, g2, g8, g9, g10, g14, g15, g17, g18, g16, gq, dec_mod64 (show 0 < q by omega) (by omega), Nat.mod_eq_of_lt hrv] | refine And.intro (by omega) ?_))
      refine ⟨fun gr => ?_, fun gr => ?_⟩
      · have := hnext hd gr
        (repeat (first | refine v_reg ?_ | refine v_last ?_ | refine vwp_seq ?_ | refine vwp_block ?_ | refine vwp_skip ?_ | refine vwp_exit ?_ | refine vwp_ret ?_ | refine v_cond ?_ | simp only [vm, ite_true, ite_false, eq_self, reduceIte, Nat.reduceEqDiff, Option.map, g2, g8, g9, g10, g14, g15, g17, this] | refine And.intro (by omega) ?_))
      · (repeat (first | refine v_reg ?_ | refine v_last ?_ | refine vwp_seq ?_ | refine vwp_block ?_ | refine vwp_skip ?_ | refine vwp_exit ?_ | refine vwp_ret ?_ | refine v_cond ?_ | simp only [vm, ite_true, ite_false, eq_self, reduceIte, Nat.reduceEqDiff, Option.map, g2, g8, g9, g10, g14, g15, g17] | refine And.intro (by omega) ?_))
        refine ⟨q - 1, by omega, q - 1, r + v1, ?_⟩
        have := hstep hd
        exact yA
    · (repeat (first | refine v_reg ?_ | refine v_last ?_ | refine vwp_seq ?_ | refine vwp_block ?_ | refine vwp_skip ?_ | refine vwp_exit ?_ | refine vwp_ret ?_ | refine v_cond ?_ | simp only [vm, ite_true, ite_false, eq_self, reduceIte, Nat.reduceEqDiff, Option.map, g2, g8, g9, g10, g14, g15, g17, g18, g16, gq, Nat.mod_eq_of_lt hqv0, Nat.mod_eq_of_lt hbr, Nat.mod_eq_of_lt hbr2] | refine And.intro (by omega) ?_))
      refine ⟨fun g3 => ?_, fun g3 => ?_⟩
      · have hd := hdec (.inr g3)
        (repeat (first | refine v_reg ?_ | refine v_last ?_ | refine vwp_seq ?_ | refine vwp_block ?_ | refine vwp_skip ?_ | refine vwp_exit ?_ | refine vwp_ret ?_ | refine v_cond ?_ | simp only [vm, ite_true, ite_false, eq_self, reduceIte, Nat.reduceEqDiff, Option.map, g2, g8, g9, g10, g14, g15, g17, g18, g16, gq, dec_mod64 (show 0 < q by omega) (by omega), Nat.mod_eq_of_lt hrv] | refine And.intro (by omega) ?_))
        refine ⟨fun gr => ?_, fun gr => ?_⟩
        · have := hnext hd gr
          (repeat (first | refine v_reg ?_ | refine v_last ?_ | refine vwp_seq ?_ | refine vwp_block ?_ | refine vwp_skip ?_ | refine vwp_exit ?_ | refine vwp_ret ?_ | refine v_cond ?_ | simp only [vm, ite_true, ite_false, eq_self, reduceIte, Nat.reduceEqDiff, Option.map, g2, g8, g9, g10, g14, g15, g17, this] | refine And.intro (by omega) ?_))
        · (repeat (first | refine v_reg ?_ | refine v_last ?_ | refine vwp_seq ?_ | refine vwp_block ?_ | refine vwp_skip ?_ | refine vwp_exit ?_ | refine vwp_ret ?_ | refine v_cond ?_ | simp only [vm, ite_true, ite_false, eq_self, reduceIte, Nat.reduceEqDiff, Option.map, g2, g8, g9, g10, g14, g15, g17] | refine And.intro (by omega) ?_))
          refine ⟨q - 1, by omega, q - 1, r + v1, ?_⟩
          have := hstep hd
          exact yA
      · have := hend gq g3
        (repeat (first | refine v_reg ?_ | refine v_last ?_ | refine vwp_seq ?_ | refine vwp_block ?_ | refine vwp_skip ?_ | refine vwp_exit ?_ | refine vwp_ret ?_ | refine v_cond ?_ | simp only [vm, ite_true, ite_false, eq_self, reduceIte, Nat.reduceEqDiff, Option.map, g2, g8, g9, g10, g14, g15, g17, g18, this] | refine And.intro (by omega) ?_))
  rintro ⟨ρ3, σ, c5⟩ ⟨g2, g8, g14, g15, g17, g18, hσ, hc5⟩
  dsimp only at g2 g8 g14 g15 g17 g18 hσ hc5
  subst hσ hc5
  obtain ⟨hQT, hQT2⟩ := two_lt hQb hTb
  (repeat (first | refine v_reg ?_ | refine v_last ?_ | refine vwp_seq ?_ | refine vwp_block ?_ | refine vwp_skip ?_ | refine vwp_exit ?_ | refine vwp_ret ?_ | refine v_cond ?_ | simp only [vm, ite_true, ite_false, eq_self, reduceIte, Nat.reduceEqDiff, Option.map, g2, g8, g14, g15, g17, g18, hmin, hrest2, Nat.mod_eq_of_lt hQT2, Nat.mod_eq_of_lt hQT] | refine And.intro (by omega) ?_))
  rw [k1, k2, Nat.mul_div_cancel _ (Nat.two_pow_pos s)]

theorem through_spec (t : Tok) (a : List Nat) (d c : Nat) (ha : Lim 18446744073709551616 a) (hd : d < 18446744073709551616) (hna : a.length ≤ 1099511627776) :
    VSpec Try.prog F.nat_Through c [nats t a, nv d] (fun r c' => (d = 0 → r = .tup [nil1, nv 0, iv 1]) ∧ (0 < d → bl (val 18446744073709551616 a / d) ≤ 67108864 → ∃ t, r = .tup [nats t (digs 18446744073709551616 (val 18446744073709551616 a / d)), nv (val 18446744073709551616 a % d), iv 0] ∧ Tk c c' t) ∧ (0 < d → 67108864 < bl (val 18446744073709551616 a / d) → r = .tup [nil1, nv 0, iv 3])) := by
  refine sG hm G.nat_Through ?_
  unfold C.nat_Through R.nat_Through cD
  have hla := digs_len_le two64 ha
  by_cases hd0 : d = 0
  · refine xRF hd0 ?_
    exact ⟨fun _ => trivial, fun h => absurd h (by omega), fun h => absurd h (by omega)⟩
  refine xRF hd0 ?_
  refine s_call (trim_spec t a c ha (by omega)) yM ?_
  rintro v c2 hc2 rfl
  have hx := lim_digs two64 (val 18446744073709551616 a)
  have va := val_digs two64 (val 18446744073709551616 a)
  generalize digs 18446744073709551616 (val 18446744073709551616 a) = x at *
  refine xR ?_
  refine s_mk (n := x.length) (m := x.length) yS yS (Nat.le_refl _) (by omega) ?_
  refine xR ?_
  refine v_loop (fun S => ∃ w, w.length = x.length ∧ Lim 18446744073709551616 w ∧ val 18446744073709551616 w = val 18446744073709551616 x / d ∧ S.ρ 7 = .buf c2 0 x.length (some x.length) 1 ∧ S.ρ 8 = nv (val 18446744073709551616 x % d) ∧ S.σ = supd noBlk c2 (nblk w) ∧ c2 + 1 ≤ S.c) ?_ ?_
  · refine vwp_loop (fun k S => ∃ w rest, k ≤ x.length ∧ w.length = x.length - k ∧ Lim 18446744073709551616 w ∧ val 18446744073709551616 w * d + rest = val 18446744073709551616 (x.drop k) ∧ rest < d ∧ S.ρ 0 = nats t x ∧ S.ρ 1 = nv d ∧ S.ρ 7 = .buf c2 0 x.length (some x.length) 1 ∧ S.ρ 8 = nv rest ∧ S.ρ 9 = iv ((k : Int) - 1) ∧ S.σ = supd noBlk c2 (nblk (List.replicate k 0 ++ w)) ∧ c2 + 1 ≤ S.c) x.length ?_ ?_
    · refine ⟨[], 0, Nat.le_refl _, ?_⟩
      simp only [vm, ite_true, ite_false, eq_self, reduceIte, Nat.reduceEqDiff, Option.map, List.drop_length]
      (repeat' apply And.intro) <;> first | rfl | omega | assumption | exact Lim.nil | (simp [val]; done)
    rintro k ⟨ρ2, σ, c4⟩ ⟨w, rest, hk, hw, hlw, hinv, hr, h0, h1, h7, h8, h9, hσ, hc4⟩
    dsimp only at h0 h1 h7 h8 h9 hσ hc4
    subst hσ
    rcases Nat.eq_zero_or_pos k with rfl | hkp
    · have g : ¬ (0 : Int) ≤ ((0 : Nat) : Int) - 1 := by omega
      refine xRF (jn h9 g) ?_
      obtain ⟨e1, e2⟩ := div_mod_of hinv hr
      rw [List.drop_zero] at e1 e2
      refine ⟨w, ?_⟩
      rw [e1, e2]
      exact yA
    · obtain ⟨i, rfl⟩ : ∃ i, k = i + 1 := ⟨k - 1, by omega⟩
      have e1 : (((i + 1 : Nat) : Int) - 1).toNat = i := by omega
      have g : (0 : Int) ≤ ((i + 1 : Nat) : Int) - 1 := by omega
      have hset : ∀ v, (List.replicate (i + 1) 0 ++ w).set i v = List.replicate i 0 ++ (v :: w) := fun v => set_top w i v
      have hlen : (List.replicate (i + 1) 0 ++ w).length = x.length := by simp; omega
      have hxi := hx.getD (i := i) (by decide)
      have hq := dig_lt hr hxi
      have hdm := Nat.div_add_mod (rest * 18446744073709551616 + x.getD i 0) d
      have hrm := Nat.mod_lt (rest * 18446744073709551616 + x.getD i 0) (show 0 < d by omega)
      obtain ⟨q, hqd⟩ : ∃ q, q = (rest * 18446744073709551616 + x.getD i 0) / d := ⟨_, rfl⟩
      obtain ⟨r, hrd⟩ : ∃ r, r = (rest * 18446744073709551616 + x.getD i 0) % d := ⟨_, rfl⟩
      rw [← hqd, ← hrd, Nat.mul_comm] at hdm
      rw [← hqd] at hq
      rw [← hrd] at hrm
      have key := thr_step hinv hdm
      rw [← val_drop (l := x) (i := i) (by omega)] at key
      refine xRF (jn h0 (jn h1 (jn h7 (jn h8 (jn h9 (jn g e1)))))) ?_
      refine s_call (div64_spec rest (x.getD i 0) d c4 hxi hd hr) (yMF (jn h0 (jn h1 (jn h7 (jn h8 h9))))) ?_
      rintro v c5 hc5 rfl
      rw [← hqd, ← hrd]
      refine xRF (jn h0 (jn h1 (jn h7 (jn h8 (jn h9 (jn hset (jn hlen e1))))))) ?_
      refine ⟨i, by omega, q :: w, r, ?_⟩
      refine xSF (jn hset e1) ?_
      (repeat' apply And.intro) <;> first | rfl | omega | assumption | (simp [hw]; omega) | (simp only [e1, hset]; done) | exact Lim.cons hq hlw | exact key | exact congrArg iv (by omega)
  rintro ⟨ρ3, σ, c5⟩ ⟨w, hw, hlw, hvw, h7, h8, hσ, hc5⟩
  dsimp only at h7 h8 hσ hc5
  subst hσ
  refine v_freeze 7 (t := c2) (off := 0) (n := x.length) (cap := some x.length) (l := w) (ySF h7) yS (by omega) (by omega) ?_
  rw [List.drop_zero, show w.take x.length = w from List.take_of_length_le (by omega)]
  refine xRF h8 ?_
  refine s_call (told_spec (.id c2) w c5 hlw (by omega)) yM ?_
  rintro v c6 hc6 rfl
  rw [hvw, va]
  rw [va] at h8
  by_cases gb : bl (val 18446744073709551616 a / d) ≤ 67108864
  · rw [if_pos gb]
    refine xRF h8 ?_
    exact ⟨fun h => h.elim, fun _ _ => ⟨_, rfl, .inr ⟨c2, rfl, by omega, by omega⟩⟩, fun _ h => absurd h (by omega)⟩
  · have g3 : ¬ (3 : Int) = 0 := by omega
    rw [if_neg gb]
    refine xRF (jn h8 g3) ?_
    exact ⟨fun h => h.elim, fun _ h => absurd h gb, fun _ _ => trivial⟩

theorem left_spec (t : Tok) (a : List Nat) (n c : Nat) (ha : Lim 18446744073709551616 a) (hn : n ≤ 1099511627776) (hna : a.length ≤ 1099511627776) :
    VSpec Try.prog F.nat_Left c [nats t a, iv n] (fun r c' => Told c c' (val 18446744073709551616 a * 2 ^ n) r) := by
  refine sG hm G.nat_Left ?_
  unfold C.nat_Left R.nat_Left cD
  have hla := digs_len_le two64 ha
  have g1 : ¬ (n : Int) < 0 := by omega
  have g2 : ¬ (1099511627776 : Int) < n := by omega
  refine xRF (jn g1 g2) ?_
  refine s_call (trim_spec t a c ha (by omega)) yM ?_
  rintro v c2 hc2 rfl
  have hx := lim_digs two64 (val 18446744073709551616 a)
  have va := val_digs two64 (val 18446744073709551616 a)
  have hz := digs_eq_nil two64 (n := val 18446744073709551616 a)
  generalize digs 18446744073709551616 (val 18446744073709551616 a) = x at *
  by_cases hx0 : x = []
  · have g3 : (x.length : Int) = 0 := by rw [hx0]; rfl
    refine xRF (jn g1 (jn g2 g3)) ?_
    have := hz.1 hx0
    rw [this, Nat.zero_mul]
    exact .inl ⟨by decide, .nil, rfl, .inl rfl⟩
  have hpos : 0 < val 18446744073709551616 a := by
    rcases Nat.eq_zero_or_pos (val 18446744073709551616 a) with h | h
    · exact absurd (hz.2 h) hx0
    · exact h
  have hxl : 0 < x.length := List.length_pos_iff.2 hx0
  have g3 : ¬ (x.length : Int) = 0 := by omega
  refine xRF (jn g1 (jn g2 g3)) ?_
  refine s_call (length_spec t x c2 hx (by omega)) yM ?_
  rintro v c3 hc3 rfl
  rw [va]
  have hbl : bl (val 18446744073709551616 a) ≤ 64 * x.length := by
    refine bl_le ?_
    have := val_lt hx
    rw [va, pow64] at this
    exact this
  have hmul := bl_mul_pow (n := n) hpos
  by_cases g4 : (67108864 : Int) < (bl (val 18446744073709551616 a) : Int) + n
  · refine xRF g4 ?_
    exact .inr ⟨by omega, rfl⟩
  have hns : ((n : Int) % 64).toNat = n % 64 := by omega
  have hnw : (n : Int) / 64 = ((n / 64 : Nat) : Int) := by omega
  refine xRF (jn g4 (jn hns hnw)) ?_
  refine s_mk (n := n / 64 + x.length + 1) (m := n / 64 + x.length + 1) ySr ySr (Nat.le_refl _) (by omega) ?_
  have hs : n % 64 < 64 := Nat.mod_lt _ (by decide)
  have hpow : val 18446744073709551616 x * 2 ^ n = 18446744073709551616 ^ (n / 64) * (val 18446744073709551616 x * 2 ^ (n % 64)) := by
    rw [pow64, Nat.mul_left_comm, ← Nat.pow_add, show 64 * (n / 64) + n % 64 = n by omega]
  generalize n / 64 = wd at *
  generalize n % 64 = s at *
  refine xR ?_
  refine v_loop (fun S => ∃ w, w.length = wd + x.length + 1 ∧ Lim 18446744073709551616 w ∧ val 18446744073709551616 w = val 18446744073709551616 x * 2 ^ n ∧ S.ρ 8 = .buf c3 0 (wd + x.length + 1) (some (wd + x.length + 1)) 1 ∧ S.σ = supd noBlk c3 (nblk w) ∧ c3 + 1 ≤ S.c) ?_ ?_
  · refine vwp_loop (fun k S => ∃ i w top, k = x.length - i ∧ i ≤ x.length ∧ w.length = i ∧ Lim 18446744073709551616 w ∧ top < 2 ^ s ∧ val 18446744073709551616 (w ++ [top]) = val 18446744073709551616 (x.take i) * 2 ^ s ∧ S.ρ 38 = nats t x ∧ S.ρ 6 = iv wd ∧ S.ρ 7 = nv s ∧ S.ρ 39 = iv x.length ∧ S.ρ 40 = iv i ∧ S.ρ 8 = .buf c3 0 (wd + x.length + 1) (some (wd + x.length + 1)) 1 ∧ S.σ = supd noBlk c3 (nblk ((List.replicate wd 0 ++ w) ++ top :: List.replicate (x.length - i) 0)) ∧ c3 + 1 ≤ S.c) x.length ?_ ?_
    · refine ⟨0, [], 0, by omega, by omega, ?_⟩
      refine xS ?_
      have e0 : List.replicate (wd + x.length + 1) 0 = (List.replicate wd 0 ++ []) ++ 0 :: List.replicate (x.length - 0) 0 := by
        rw [List.append_nil, Nat.sub_zero, Nat.add_assoc, ← List.replicate_append_replicate, List.replicate_succ]
      (repeat' apply And.intro) <;> first | rfl | omega | assumption | exact Lim.nil | exact Nat.two_pow_pos s | (simp [val]; done) | (rw [e0])
    rintro k ⟨ρ2, σ, c4⟩ ⟨i, w, top, hk, hi, hw, hlw, ht, hinv, h38, h6, h7, h39, h40, h8, hσ, hc4⟩
    dsimp only at h38 h6 h7 h39 h40 h8 hσ hc4
    subst hσ
    by_cases g : (i : Int) < x.length
    · have hi' : i < x.length := by omega
      have hxi := hx.getD (i := i) (by decide)
      obtain ⟨p1, p2, p3⟩ := shl_parts hs hxi
      obtain ⟨o1, o2⟩ := or_top hs hxi ht
      have hlo := Nat.mod_lt (x.getD i 0 * 2 ^ s) (show 0 < 18446744073709551616 by decide)
      have e1 : ((wd : Int) + (i : Int)).toNat = wd + i := by omega
      have e2 : ((wd : Int) + (i : Int) + 1).toNat = wd + i + 1 := by omega
      have e3 : min s 64 = s := by omega
      have e4 : (63 + (18446744073709551616 - s % 18446744073709551616)) % 18446744073709551616 = 63 - s := by omega
      have e5 : min (63 - s) 64 = 63 - s := by omega
      have hps : 2 ^ s ≤ 18446744073709551616 := Nat.le_trans (Nat.pow_le_pow_right (by decide) (show s ≤ 64 by omega)) (by decide)
      have e6 : top % 18446744073709551616 = top := Nat.mod_eq_of_lt (by omega)
      have e7 : x.getD i 0 / 2 / 2 ^ (63 - s) % 18446744073709551616 = x.getD i 0 / 2 / 2 ^ (63 - s) := Nat.mod_eq_of_lt (by omega)
      have hl1 : (List.replicate wd 0 ++ w).length = wd + i := by simp; omega
      have hget1 : ((List.replicate wd 0 ++ w) ++ top :: List.replicate (x.length - i) 0).getD (wd + i) 0 = top := by
        rw [← hl1]; exact getD_at _ _ _
      have hlen1 : ((List.replicate wd 0 ++ w) ++ top :: List.replicate (x.length - i) 0).length = wd + x.length + 1 := by simp; omega
      have hset1 : ∀ v, ((List.replicate wd 0 ++ w) ++ top :: List.replicate (x.length - i) 0).set (wd + i) v = ((List.replicate wd 0 ++ w) ++ [v]) ++ 0 :: List.replicate (x.length - (i + 1)) 0 := fun v => by
        rw [← hl1, set_at, show x.length - i = x.length - (i + 1) + 1 by omega, List.replicate_succ]; simp
      have hl2 : ∀ v, ((List.replicate wd 0 ++ w) ++ [v]).length = wd + i + 1 := fun v => by simp; omega
      have hget2 : ∀ v, (((List.replicate wd 0 ++ w) ++ [v]) ++ 0 :: List.replicate (x.length - (i + 1)) 0).getD (wd + i + 1) 0 = 0 := fun v => by
        rw [← hl2 v]; exact getD_at _ _ _
      have hlen2 : ∀ v, (((List.replicate wd 0 ++ w) ++ [v]) ++ 0 :: List.replicate (x.length - (i + 1)) 0).length = wd + x.length + 1 := fun v => by simp; omega
      have hset2 : ∀ v u, (((List.replicate wd 0 ++ w) ++ [v]) ++ 0 :: List.replicate (x.length - (i + 1)) 0).set (wd + i + 1) u = (List.replicate wd 0 ++ (w ++ [v])) ++ u :: List.replicate (x.length - (i + 1)) 0 := fun v u => by
        rw [← hl2 v, set_at, List.append_assoc (List.replicate wd 0)]
      have key := shl_step (i := i) hw hinv p1
      rw [← Nat.mul_assoc, ← Nat.add_mul, ← val_take (l := x) (i := i) hi'] at key
      refine xRF (jn h38 (jn h6 (jn h7 (jn h39 (jn h40 (jn h8 (jn g (jn e1 (jn e2 (jn e3 (jn e4 (jn e5 (jn hget1 (jn hlen1 (jn hset1 (jn @u_or (jn e6 (jn @Nat.mod_mod (jn o1 (jn hget2 (jn hlen2 (jn hset2 (jn e7 (jn @Nat.zero_mod @Nat.zero_or)))))))))))))))))))))))) ?_
      refine ⟨x.length - (i + 1), by omega, i + 1, w ++ [top + x.getD i 0 * 2 ^ s % 18446744073709551616], x.getD i 0 / 2 / 2 ^ (63 - s), ?_⟩
      (repeat' apply And.intro) <;> first | rfl | omega | assumption | (simp [hw]; done) | exact lim_snoc hlw o2 | exact key
    · have hi' : i = x.length := by omega
      subst hi'
      refine xRF (jn h38 (jn h6 (jn h7 (jn h39 (jn h40 (jn h8 g)))))) ?_
      rw [List.take_length] at hinv
      have hps : 2 ^ s ≤ 18446744073709551616 := Nat.le_trans (Nat.pow_le_pow_right (by decide) (show s ≤ 64 by omega)) (by decide)
      refine ⟨(List.replicate wd 0 ++ w) ++ [top], ?_⟩
      have e0 : (List.replicate wd 0 ++ w) ++ top :: List.replicate (x.length - x.length) 0 = (List.replicate wd 0 ++ w) ++ [top] := by simp
      rw [e0]
      have hvv : val 18446744073709551616 ((List.replicate wd 0 ++ w) ++ [top]) = val 18446744073709551616 x * 2 ^ n := by
        rw [List.append_assoc, val_zeros, hinv, hpow]
      (repeat' apply And.intro) <;> first | rfl | omega | assumption | (simp [hw]; omega) | exact (Lim.append (Lim.append (Lim.replicate (by decide)) hlw) (.cons (by omega) .nil)) | exact hvv
  rintro ⟨ρ3, σ, c5⟩ ⟨w, hw, hlw, hvw, h8, hσ, hc5⟩
  dsimp only at h8 hσ hc5
  subst hσ
  refine v_freeze 8 (t := c3) (off := 0) (n := wd + x.length + 1) (cap := some (wd + x.length + 1)) (l := w) (ySF h8) yS (by omega) (by omega) ?_
  rw [List.drop_zero, show w.take (wd + x.length + 1) = w from List.take_of_length_le (by omega)]
  refine xR ?_
  refine s_call (trim_spec (.id c3) w c5 hlw (by omega)) yM ?_
  rintro v c6 hc6 rfl
  rw [hvw, va]
  refine xR ?_
  exact .inl ⟨by omega, .id c3, rfl, .inr ⟨c3, rfl, by omega, by omega⟩⟩

theorem addAt_spec (t : Nat) (u : Tok) (l y : List Nat) (k n c : Nat) (cap : Option Nat) (hl : Lim 18446744073709551616 l) (hy : Lim 18446744073709551616 y) (hn : l.length = n) (hnb : n ≤ 4398046511104) (hyb : y.length ≤ 4398046511104) (hkb : k ≤ 4398046511104) (hroom : val 18446744073709551616 l + 18446744073709551616 ^ k * val 18446744073709551616 y < 18446744073709551616 ^ n) :
    VSpecL Try.prog F.mul_addAt c (supd noBlk t (nblk l)) [.buf t 0 n cap 1, nats u y, iv k] (fun r σ' c' => r = .tup [] ∧ ∃ l', σ' t = nblk l' ∧ l'.length = n ∧ Lim 18446744073709551616 l' ∧ val 18446744073709551616 l' = val 18446744073709551616 l + 18446744073709551616 ^ k * val 18446744073709551616 y) := by
  refine sL hm G.mul_addAt ?_
  unfold C.mul_addAt R.mul_addAt cD
  refine xR ?_
  refine vwp_loop (fun m S => ∃ i w carry, m = n - i ∧ k ≤ i ∧ w.length = n ∧ Lim 18446744073709551616 w ∧ carry ≤ 1 ∧ val 18446744073709551616 w + 18446744073709551616 ^ i * carry = val 18446744073709551616 l + 18446744073709551616 ^ k * val 18446744073709551616 (y.take (i - k)) ∧ S.ρ 0 = .buf t 0 n cap 1 ∧ S.ρ 1 = nats u y ∧ S.ρ 2 = iv k ∧ S.ρ 6 = nv carry ∧ S.ρ 7 = iv i ∧ S.σ = supd noBlk t (nblk w) ∧ S.c = c) (n - k) ?_ ?_
  · refine ⟨k, l, 0, rfl, ?_⟩
    simp only [vm, ite_true, ite_false, eq_self, reduceIte, Nat.reduceEqDiff, Option.map, Nat.sub_self, List.take_zero]
    (repeat' apply And.intro) <;> first | rfl | omega | assumption | (simp [val]; done)
  rintro m ⟨ρ, σ, c3⟩ ⟨i, w, carry, hm', hki, hw, hlw, hca, hinv, h0, h1, h2, h6, h7, hσ, hc3⟩
  dsimp only at h0 h1 h2 h6 h7 hσ hc3
  subst hσ hc3
  have hfin : n ≤ i ∨ (y.length ≤ i - k ∧ carry = 0) → val 18446744073709551616 w = val 18446744073709551616 l + 18446744073709551616 ^ k * val 18446744073709551616 y := fun h => by
    rcases h with h | ⟨h, h'⟩
    · exact addAt_end (by decide) h hki hinv hroom
    · rw [List.take_of_length_le h, h', Nat.mul_zero, Nat.add_zero] at hinv
      exact hinv
  by_cases g1 : (i : Int) < n
  · have hw0 := hlw.getD (i := i) (by decide)
    have hy0 := hy.getD (i := i - k) (by decide)
    have hty := val_take' 18446744073709551616 y (i - k)
    have key := addAt_step (b := 18446744073709551616) (y := y.getD (i - k) 0) (by omega) hki hinv _ rfl
    rw [← hty, show i - k + 1 = i + 1 - k by omega] at key
    have eik : ((i : Int) - k).toNat = i - k := by omega
    have hc1 : (w.getD i 0 + y.getD (i - k) 0 + carry) / 18446744073709551616 ≤ 1 := by omega
    by_cases g2 : (i : Int) - k < y.length
    · refine xRF (jn h0 (jn h1 (jn h2 (jn h6 (jn h7 (jn g1 (jn g2 eik))))))) ?_
      refine ⟨n - (i + 1), by omega, i + 1, w.set i ((w.getD i 0 + y.getD (i - k) 0 + carry) % 18446744073709551616), (w.getD i 0 + y.getD (i - k) 0 + carry) / 18446744073709551616, ?_⟩
      (repeat' apply And.intro) <;> first | rfl | omega | assumption | (rw [List.length_set]; exact hw) | exact hlw.set (Nat.mod_lt _ (by decide)) | exact key
    · have hyz : y.getD (i - k) 0 = 0 := getD_ge (by omega)
      by_cases g3 : 0 < carry
      · refine xRF (jn h0 (jn h1 (jn h2 (jn h6 (jn h7 (jn g1 (jn g2 (jn g3 eik)))))))) ?_
        rw [hyz, Nat.add_zero] at key hc1
        refine ⟨n - (i + 1), by omega, i + 1, w.set i ((w.getD i 0 + carry) % 18446744073709551616), (w.getD i 0 + carry) / 18446744073709551616, ?_⟩
        (repeat' apply And.intro) <;> first | rfl | omega | assumption | (rw [List.length_set]; exact hw) | exact hlw.set (Nat.mod_lt _ (by decide)) | exact key
      · refine xRF (jn h0 (jn h1 (jn h2 (jn h6 (jn h7 (jn g1 (jn g2 (jn g3 eik)))))))) ?_
        exact ⟨w, rfl, hw, hlw, hfin (.inr ⟨by omega, by omega⟩)⟩
  · refine xRF (jn h0 (jn h1 (jn h2 (jn h6 (jn h7 g1))))) ?_
    exact ⟨w, rfl, hw, hlw, hfin (.inl (by omega))⟩

theorem sum_spec (t u : Tok) (a b : List Nat) (c : Nat) (ha : Lim 18446744073709551616 a) (hb : Lim 18446744073709551616 b) (hna : a.length ≤ 1099511627776) (hnb : b.length ≤ 1099511627776) :
    VSpec Try.prog F.mul_sum c [nats t a, nats u b] (fun r c' => ∃ l i, r = nats (.id i) l ∧ c ≤ i ∧ i < c' ∧ Lim 18446744073709551616 l ∧ l.length = max a.length b.length + 1 ∧ val 18446744073709551616 l = val 18446744073709551616 a + val 18446744073709551616 b) := by
  refine sG hm G.mul_sum ?_
  unfold C.mul_sum R.mul_sum cD
  have em : max (a.length : Int) (b.length : Int) = ((max a.length b.length : Nat) : Int) := by omega
  refine xRF em ?_
  refine s_mk (n := max a.length b.length + 1) (m := max a.length b.length + 1) (ySrF em) (ySrF em) (Nat.le_refl _) (by omega) ?_
  have h1 : a.length ≤ max a.length b.length := Nat.le_max_left _ _
  have h2 : b.length ≤ max a.length b.length := Nat.le_max_right _ _
  have h3 : max a.length b.length ≤ 1099511627776 := by omega
  generalize max a.length b.length = n at *
  refine xR ?_
  refine s_cpy (t := c) (n := n + 1) (cap := some (n + 1)) (l := List.replicate (n + 1) 0) (a := a) (u := t) yS yS yS (by omega) (by simp) ?_
  have e0 : a ++ (List.replicate (n + 1) 0).drop a.length = a ++ List.replicate (n + 1 - a.length) 0 := by simp
  rw [e0]
  have hl0 : Lim 18446744073709551616 (a ++ List.replicate (n + 1 - a.length) 0) := ha.append (Lim.replicate (by decide))
  have hv0 : val 18446744073709551616 (a ++ List.replicate (n + 1 - a.length) 0) = val 18446744073709551616 a := by rw [val_append, val_replicate]; simp
  have hn0 : (a ++ List.replicate (n + 1 - a.length) 0).length = n + 1 := by simp; omega
  generalize a ++ List.replicate (n + 1 - a.length) 0 = l0 at *
  have hroom : val 18446744073709551616 l0 + 18446744073709551616 ^ 0 * val 18446744073709551616 b < 18446744073709551616 ^ (n + 1) := by
    rw [hv0, Nat.pow_zero, Nat.one_mul, Nat.pow_succ]
    have p1 := Nat.lt_of_lt_of_le (val_lt ha) (Nat.pow_le_pow_right (show 0 < 18446744073709551616 by decide) h1)
    have p2 := Nat.lt_of_lt_of_le (val_lt hb) (Nat.pow_le_pow_right (show 0 < 18446744073709551616 by decide) h2)
    generalize 18446744073709551616 ^ n = q at *
    omega
  refine xR ?_
  refine s_call1 c (l := l0) yS (fun s hs => by refine xS ?_; rw [if_neg (by omega)]; rfl) (addAt_spec c u l0 b 0 (n + 1) (c + 1) (some (n + 1)) hl0 hb hn0 (by omega) (by omega) (by omega) hroom) yMr ?_
  rintro v σ' c2 hc2 ⟨rfl, l', hσ', hn', hlim, hval⟩
  rw [hσ']
  rw [Nat.pow_zero, Nat.one_mul, hv0] at hval
  refine xS ?_
  refine v_freeze 5 (t := c) (off := 0) (n := n + 1) (cap := some (n + 1)) (l := l') yS yS (by omega) (by omega) ?_
  rw [List.drop_zero, show l'.take (n + 1) = l' from List.take_of_length_le (by omega)]
  refine xR ?_
  exact ⟨l', c, rfl, by omega, by omega, hlim, hn', hval⟩

theorem less_spec (t u : Tok) (a b : List Nat) (c : Nat) (ha : Lim 18446744073709551616 a) (hb : Lim 18446744073709551616 b) (hna : a.length ≤ 1099511627776) (hnb : b.length ≤ 1099511627776) (hle : val 18446744073709551616 b ≤ val 18446744073709551616 a) :
    VSpec Try.prog F.mul_less c [nats t a, nats u b] (fun r c' => ∃ l i, r = nats (.id i) l ∧ c ≤ i ∧ i < c' ∧ Lim 18446744073709551616 l ∧ l.length = a.length ∧ val 18446744073709551616 l = val 18446744073709551616 a - val 18446744073709551616 b) := by
  refine sG hm G.mul_less ?_
  unfold C.mul_less R.mul_less cD
  refine xR ?_
  refine s_mk (n := a.length) (m := a.length) yS yS (Nat.le_refl _) (by omega) ?_
  refine xR ?_
  refine s_cpy (t := c) (n := a.length) (cap := some a.length) (l := List.replicate a.length 0) (a := a) (u := t) yS yS yS (by omega) (by simp) ?_
  have e0 : a ++ (List.replicate a.length 0).drop a.length = a := by simp
  rw [e0]
  refine xR ?_
  refine v_loop (fun S => ∃ w, w.length = a.length ∧ Lim 18446744073709551616 w ∧ val 18446744073709551616 w = val 18446744073709551616 a - val 18446744073709551616 b ∧ S.ρ 5 = .buf c 0 a.length (some a.length) 1 ∧ S.σ = supd noBlk c (nblk w) ∧ S.c = c + 1) ?_ ?_
  · refine vwp_loop (fun k S => ∃ i w bo, k = a.length - i ∧ i ≤ a.length ∧ w.length = i ∧ Lim 18446744073709551616 w ∧ bo ≤ 1 ∧ val 18446744073709551616 w + val 18446744073709551616 (b.take i) = val 18446744073709551616 (a.take i) + 18446744073709551616 ^ i * bo ∧ S.ρ 1 = nats u b ∧ S.ρ 5 = .buf c 0 a.length (some a.length) 1 ∧ S.ρ 6 = nv bo ∧ S.ρ 16 = iv a.length ∧ S.ρ 17 = iv i ∧ S.σ = supd noBlk c (nblk (w ++ a.drop i)) ∧ S.c = c + 1) a.length ?_ ?_
    · refine ⟨0, [], 0, by omega, by omega, ?_⟩
      refine xS ?_
      (repeat' apply And.intro) <;> first | rfl | omega | assumption | exact Lim.nil
    rintro k ⟨ρ2, σ, c4⟩ ⟨i, w, bo, hk, hi, hw, hlw, hbo, hinv, h1, h5, h6, h16, h17, hσ, hc4⟩
    dsimp only at h1 h5 h6 h16 h17 hσ hc4
    subst hσ hc4
    by_cases g : (i : Int) < a.length
    · have hi' : i < a.length := by omega
      have hxi := ha.getD (i := i) (by decide)
      have hyi := hb.getD (i := i) (by decide)
      have hx' := val_take' 18446744073709551616 a i
      have hy' := val_take' 18446744073709551616 b i
      have hlen : (w ++ a.drop i).length = a.length := by simp; omega
      have hget : (w ++ a.drop i).getD i 0 = a.getD i 0 := by
        rw [drop_cons hi', ← hw]; exact getD_at _ _ _
      have hset : ∀ v, (w ++ a.drop i).set i v = (w ++ [v]) ++ a.drop (i + 1) := fun v => by
        rw [drop_cons hi']
        conv => lhs; rw [← hw]
        rw [set_at, hw]; simp
      have key := sub_step (b := 18446744073709551616) (c' := if a.getD i 0 < b.getD i 0 + bo then 1 else 0) (x := a.getD i 0) (y := b.getD i 0) (d := (a.getD i 0 + 18446744073709551616 - b.getD i 0 - bo) % 18446744073709551616) hw hinv (by split <;> omega)
      have hb1 : (if a.getD i 0 < b.getD i 0 + bo then 1 else 0) ≤ 1 := by split <;> omega
      rw [← hx', ← hy'] at key
      by_cases g2 : (i : Int) < b.length
      · refine xRF (jn h1 (jn h5 (jn h6 (jn h16 (jn h17 (jn g (jn g2 (jn hlen (jn hget hset))))))))) ?_
        refine ⟨a.length - (i + 1), by omega, i + 1, w ++ [(a.getD i 0 + 18446744073709551616 - b.getD i 0 - bo) % 18446744073709551616], if a.getD i 0 < b.getD i 0 + bo then 1 else 0, ?_⟩
        (repeat' apply And.intro) <;> first | rfl | omega | assumption | (simp [hw]; done) | exact lim_snoc hlw (Nat.mod_lt _ (by decide)) | exact key
      · have hy0 : b.getD i 0 = 0 := getD_ge (by omega)
        rw [hy0] at key hb1
        refine xRF (jn h1 (jn h5 (jn h6 (jn h16 (jn h17 (jn g (jn g2 (jn hlen (jn hget hset))))))))) ?_
        refine ⟨a.length - (i + 1), by omega, i + 1, w ++ [(a.getD i 0 + 18446744073709551616 - 0 - bo) % 18446744073709551616], if a.getD i 0 < 0 + bo then 1 else 0, ?_⟩
        simp only [Nat.zero_add] at key hb1 ⊢
        (repeat' apply And.intro) <;> first | rfl | omega | assumption | (simp [hw]; done) | exact lim_snoc hlw (Nat.mod_lt _ (by decide)) | exact key
    · have hi' : i = a.length := by omega
      subst hi'
      refine xRF (jn h1 (jn h5 (jn h6 (jn h16 (jn h17 g))))) ?_
      have hwl := val_lt hlw
      rw [hw] at hwl
      have hbt : val 18446744073709551616 (b.take a.length) = val 18446744073709551616 b := by
        by_cases gl : a.length ≤ b.length
        · have p := val_take_drop 18446744073709551616 a.length b gl
          have p2 := val_lt ha
          have p3 : val 18446744073709551616 (b.drop a.length) = 0 := by
            rcases Nat.eq_zero_or_pos (val 18446744073709551616 (b.drop a.length)) with e | e
            · exact e
            · have := Nat.mul_le_mul_left (18446744073709551616 ^ a.length) e
              omega
          rw [p3] at p
          omega
        · rw [List.take_of_length_le (by omega)]
      rw [List.take_length, hbt] at hinv
      have hvz : val 18446744073709551616 w = val 18446744073709551616 a - val 18446744073709551616 b := by
        have hbb : bo = 0 ∨ bo = 1 := by omega
        rcases hbb with rfl | rfl <;> omega
      refine ⟨w, hw, hlw, hvz, ?_⟩
      rw [List.drop_length, List.append_nil]
  rintro ⟨ρ3, σ, c5⟩ ⟨w, hw, hlw, hvw, h5, hσ, hc5⟩
  dsimp only at h5 hσ hc5
  subst hσ hc5
  refine v_freeze 5 (t := c) (off := 0) (n := a.length) (cap := some a.length) (l := w) (ySF h5) yS (by omega) (by omega) ?_
  rw [List.drop_zero, show w.take a.length = w from List.take_of_length_le (by omega)]
  refine xR ?_
  exact ⟨w, c, rfl, by omega, by omega, hlw, hw, hvw⟩

theorem part_spec (t : Tok) (a : List Nat) (f e c : Nat) (ha : Lim 18446744073709551616 a) (hna : a.length ≤ 1099511627776) (hfe : f ≤ e) :
    VSpec Try.prog F.mul_part c [nats t a, iv f, iv e] (fun r c' => ∃ t' l, r = nats t' l ∧ Lim 18446744073709551616 l ∧ l.length ≤ e - f ∧ l.length ≤ a.length - f ∧ val 18446744073709551616 l = val 18446744073709551616 ((a.drop f).take (e - f))) := by
  refine sG hm G.mul_part ?_
  unfold C.mul_part R.mul_part cD
  have e1 : min (f : Int) (a.length : Int) = ((min f a.length : Nat) : Int) := by omega
  have e2 : min (e : Int) (a.length : Int) = ((min e a.length : Nat) : Int) := by omega
  have hval : (a.drop f).take (e - f) = (a.drop (min f a.length)).take (min e a.length - min f a.length) := by
    rcases Nat.lt_or_ge a.length f with g | g
    · rw [List.drop_of_length_le (by omega), show min f a.length = a.length by omega, List.drop_of_length_le (Nat.le_refl _)]; simp
    · rw [show min f a.length = f by omega]
      rcases Nat.lt_or_ge a.length e with g2 | g2
      · rw [show min e a.length = a.length by omega, List.take_of_length_le (by simp; omega), List.take_of_length_le (by simp)]
      · rw [show min e a.length = e by omega]
  rw [hval]
  have h1 : min f a.length ≤ min e a.length := by omega
  have h2 : min e a.length ≤ a.length := by omega
  have h3 : min e a.length - min f a.length ≤ e - f := by omega
  have h4 : min e a.length - min f a.length ≤ a.length - f := by omega
  refine xRF (jn e1 e2) ?_
  generalize min f a.length = f' at *
  generalize min e a.length = e' at *
  refine v_loop (fun S => ∃ k, f' ≤ k ∧ k ≤ e' ∧ val 18446744073709551616 ((a.drop f').take (k - f')) = val 18446744073709551616 ((a.drop f').take (e' - f')) ∧ S.ρ 0 = nats t a ∧ S.ρ 1 = iv f' ∧ S.ρ 2 = iv k ∧ S.σ = noBlk ∧ S.c = c) ?_ ?_
  · refine vwp_loop (fun m S => ∃ k, m = k ∧ f' ≤ k ∧ k ≤ e' ∧ val 18446744073709551616 ((a.drop f').take (k - f')) = val 18446744073709551616 ((a.drop f').take (e' - f')) ∧ S.ρ 0 = nats t a ∧ S.ρ 1 = iv f' ∧ S.ρ 2 = iv k ∧ S.σ = noBlk ∧ S.c = c) e' ?_ ?_
    · refine ⟨e', rfl, ?_⟩
      refine xS ?_
      exact yA
    rintro m ⟨ρ2, σ, c4⟩ ⟨k, hm', hk1, hk2, hv, g0, g1, g2, hσ, hc4⟩
    dsimp only at g0 g1 g2 hσ hc4
    subst hσ hc4
    by_cases g : (f' : Int) < k
    · obtain ⟨i, rfl⟩ : ∃ i, k = i + 1 := ⟨k - 1, by omega⟩
      have ei : (((i + 1 : Nat) : Int) - 1).toNat = i := by omega
      by_cases gz : a.getD i 0 = 0
      · refine xRF (jn g0 (jn g1 (jn g2 (jn g (jn ei gz))))) ?_
        refine ⟨i, by omega, i, ?_⟩
        have hs := slice_snoc (a := a) (f := f') (k := i) (by omega) (by omega)
        rw [hs, gz, val_snoc0] at hv
        (repeat' apply And.intro) <;> first | rfl | omega | assumption | exact congrArg iv (by omega)
      · refine xRF (jn g0 (jn g1 (jn g2 (jn g (jn ei gz))))) ?_
        exact ⟨i + 1, hk1, hk2, hv, rfl⟩
    · refine xRF (jn g0 (jn g1 (jn g2 g))) ?_
      exact ⟨k, hk1, hk2, hv, rfl⟩
  rintro ⟨ρ3, σ, c5⟩ ⟨k, hk1, hk2, hv, g0, g1, g2, hσ, hc5⟩
  dsimp only at g0 g1 g2 hσ hc5
  subst hσ hc5
  refine xRF (jn g0 (jn g1 g2)) ?_
  refine ⟨_, _, rfl, ha.drop.take, ?_, ?_, hv⟩
  · simp; omega
  · simp; omega

theorem school_spec (t u : Tok) (a b : List Nat) (c : Nat) (ha : Lim 18446744073709551616 a) (hb : Lim 18446744073709551616 b) (hna : a.length ≤ 1099511627776) (hnb : b.length ≤ 1099511627776) :
    VSpec Try.prog F.mul_school c [nats t a, nats u b] (fun r c' => ∃ l i, r = nats (.id i) l ∧ c ≤ i ∧ i < c' ∧ Lim 18446744073709551616 l ∧ l.length = a.length + b.length ∧ val 18446744073709551616 l = val 18446744073709551616 a * val 18446744073709551616 b) := by
  refine sG hm G.mul_school ?_
  unfold C.mul_school R.mul_school cD
  refine xR ?_
  refine s_mk (n := a.length + b.length) (m := a.length + b.length) ySr ySr (Nat.le_refl _) (by omega) ?_
  refine xR ?_
  refine v_loop (fun S => ∃ w, w.length = a.length + b.length ∧ Lim 18446744073709551616 w ∧ val 18446744073709551616 w = val 18446744073709551616 a * val 18446744073709551616 b ∧ S.ρ 5 = .buf c 0 (a.length + b.length) (some (a.length + b.length)) 1 ∧ S.σ = supd noBlk c (nblk w) ∧ c + 1 ≤ S.c) ?_ ?_
  · refine vwp_loop (fun m S => ∃ i w, m = a.length - i ∧ i ≤ a.length ∧ w.length = i + b.length ∧ Lim 18446744073709551616 w ∧ val 18446744073709551616 w = val 18446744073709551616 (a.take i) * val 18446744073709551616 b ∧ S.ρ 1 = nats u b ∧ S.ρ 5 = .buf c 0 (a.length + b.length) (some (a.length + b.length)) 1 ∧ S.ρ 20 = nats t a ∧ S.ρ 21 = iv a.length ∧ S.ρ 22 = iv i ∧ S.σ = supd noBlk c (nblk (w ++ List.replicate (a.length - i) 0)) ∧ c + 1 ≤ S.c) a.length ?_ ?_
    · refine ⟨0, List.replicate b.length 0, by omega, by omega, ?_⟩
      refine xS ?_
      have e0 : List.replicate b.length 0 ++ List.replicate (a.length - 0) 0 = List.replicate (a.length + b.length) 0 := by
        rw [List.replicate_append_replicate]; congr 1; omega
      (repeat' apply And.intro) <;> first | rfl | omega | assumption | (simp; done) | exact Lim.replicate (by decide) | (rw [val_replicate]; simp [val]; done) | (rw [e0])
    rintro m ⟨ρ2, σ, c4⟩ ⟨i, w, hm', hi, hw, hlw, hinv, h1, h5, h20, h21, h22, hσ, hc4⟩
    dsimp only at h1 h5 h20 h21 h22 hσ hc4
    subst hσ
    by_cases g : (i : Int) < a.length
    · have hi' : i < a.length := by omega
      have hxi := ha.getD (i := i) (by decide)
      have hx' := val_take' 18446744073709551616 a i
      refine xRF (jn h1 (jn h5 (jn h20 (jn h21 (jn h22 g))))) ?_
      generalize a.getD i 0 = x at *
      refine v_loop (fun S => ∃ w' carry, w'.length = i + b.length ∧ Lim 18446744073709551616 w' ∧ carry < 18446744073709551616 ∧ val 18446744073709551616 w' + 18446744073709551616 ^ (i + b.length) * carry = val 18446744073709551616 w + 18446744073709551616 ^ i * (x * val 18446744073709551616 b) ∧ S.ρ 1 = nats u b ∧ S.ρ 5 = .buf c 0 (a.length + b.length) (some (a.length + b.length)) 1 ∧ S.ρ 6 = iv i ∧ S.ρ 8 = nv carry ∧ S.ρ 20 = nats t a ∧ S.ρ 21 = iv a.length ∧ S.ρ 22 = iv i ∧ S.σ = supd noBlk c (nblk (w' ++ List.replicate (a.length - i) 0)) ∧ c + 1 ≤ S.c) ?_ ?_
      · refine vwp_loop (fun m S => ∃ k w' carry, m = b.length - k ∧ k ≤ b.length ∧ w'.length = i + b.length ∧ Lim 18446744073709551616 w' ∧ carry < 18446744073709551616 ∧ val 18446744073709551616 w' + 18446744073709551616 ^ (i + k) * carry = val 18446744073709551616 w + 18446744073709551616 ^ i * (x * val 18446744073709551616 (b.take k)) ∧ S.ρ 1 = nats u b ∧ S.ρ 5 = .buf c 0 (a.length + b.length) (some (a.length + b.length)) 1 ∧ S.ρ 6 = iv i ∧ S.ρ 7 = nv x ∧ S.ρ 8 = nv carry ∧ S.ρ 20 = nats t a ∧ S.ρ 21 = iv a.length ∧ S.ρ 22 = iv i ∧ S.ρ 27 = nats u b ∧ S.ρ 28 = iv b.length ∧ S.ρ 29 = iv k ∧ S.σ = supd noBlk c (nblk (w' ++ List.replicate (a.length - i) 0)) ∧ c + 1 ≤ S.c) b.length ?_ ?_
        · refine ⟨0, w, 0, by omega, by omega, ?_⟩
          refine xSF (jn h1 (jn h5 (jn h20 (jn h21 h22)))) ?_
          (repeat' apply And.intro) <;> first | rfl | omega | assumption | (simp [val]; done)
        rintro m ⟨ρ3, σ, c5⟩ ⟨k, w', carry, hm2, hk, hw', hlw', hca, hinv', q1, q5, q6, q7, q8, q20, q21, q22, q27, q28, q29, hσ, hc5⟩
        dsimp only at q1 q5 q6 q7 q8 q20 q21 q22 q27 q28 q29 hσ hc5
        subst hσ
        by_cases g2 : (k : Int) < b.length
        · have hk' : k < b.length := by omega
          have hyk := hb.getD (i := k) (by decide)
          have hy' := val_take' 18446744073709551616 b k
          have hik : i + k < w'.length := by omega
          have hwk := hlw'.getD (i := i + k) (by decide)
          have key := addAt_step (b := 18446744073709551616) (k := i) (Y := x * val 18446744073709551616 (b.take k)) (y := x * b.getD k 0) (c := carry) hik (by omega) hinv' _ rfl
          rw [show i + k - i = k by omega, Nat.mul_left_comm, ← Nat.mul_add, ← hy'] at key
          obtain ⟨s1, s2, s3⟩ := school_step (mul_le_max hxi hyk) hca hwk
          have eik : ((i : Int) + (k : Int)).toNat = i + k := by omega
          have hget : (w' ++ List.replicate (a.length - i) 0).getD (i + k) 0 = w'.getD (i + k) 0 := getD_append_left hik
          have hset : ∀ v, (w' ++ List.replicate (a.length - i) 0).set (i + k) v = w'.set (i + k) v ++ List.replicate (a.length - i) 0 := fun v => List.set_append_left _ _ hik
          have hlen : (w' ++ List.replicate (a.length - i) 0).length = a.length + b.length := by simp; omega
          refine xRF (jn q1 (jn q5 (jn q6 (jn q7 (jn q8 (jn q20 (jn q21 (jn q22 (jn q27 (jn q28 (jn q29 g2))))))))))) ?_
          refine s_call (mul64_spec x (b.getD k 0) c5 hxi hyk) (yMF q7) ?_
          rintro v c6 hc6 rfl
          refine xRF (jn q1 (jn q5 (jn q6 (jn q7 (jn q8 (jn q20 (jn q21 (jn q22 (jn q27 (jn q28 (jn q29 (jn g2 (jn @Nat.add_zero (jn eik (jn hget (jn hset (jn hlen (jn s1 s2)))))))))))))))))) ?_
          refine ⟨b.length - (k + 1), by omega, k + 1, w'.set (i + k) ((w'.getD (i + k) 0 + x * b.getD k 0 + carry) % 18446744073709551616), (w'.getD (i + k) 0 + x * b.getD k 0 + carry) / 18446744073709551616, ?_⟩
          (repeat' apply And.intro) <;> first | rfl | omega | assumption | (rw [List.length_set]; exact hw') | exact hlw'.set (Nat.mod_lt _ (by decide)) | exact key
        · have hk' : k = b.length := by omega
          subst hk'
          refine xRF (jn q1 (jn q5 (jn q6 (jn q7 (jn q8 (jn q20 (jn q21 (jn q22 (jn q27 (jn q28 (jn q29 g2))))))))))) ?_
          rw [List.take_length] at hinv'
          refine ⟨w', carry, hw', hlw', hca, hinv', ?_⟩
          exact yA
      rintro ⟨ρ3, σ, c5⟩ ⟨w', carry, hw', hlw', hca, hinv', q1, q5, q6, q8, q20, q21, q22, hσ, hc5⟩
      dsimp only at q1 q5 q6 q8 q20 q21 q22 hσ hc5
      subst hσ
      have eib : ((i : Int) + (b.length : Int)).toNat = i + b.length := by omega
      have hlen : (w' ++ List.replicate (a.length - i) 0).length = a.length + b.length := by simp; omega
      have hset : ∀ v, (w' ++ List.replicate (a.length - i) 0).set (i + b.length) v = (w' ++ [v]) ++ List.replicate (a.length - (i + 1)) 0 := fun v => by
        have := set_fill w' (a.length - (i + 1)) v
        rw [hw'] at this
        rw [show a.length - i = a.length - (i + 1) + 1 by omega, this]
      refine xRF (jn q1 (jn q5 (jn q6 (jn q8 (jn q20 (jn q21 (jn q22 (jn eib (jn hlen hset))))))))) ?_
      refine ⟨a.length - (i + 1), by omega, i + 1, w' ++ [carry], ?_⟩
      have hvv : val 18446744073709551616 (w' ++ [carry]) = val 18446744073709551616 (a.take (i + 1)) * val 18446744073709551616 b := by
        rw [val_append, hw']
        simp only [val, Nat.mul_zero, Nat.add_zero]
        rw [hinv', hinv, hx', Nat.add_mul, Nat.mul_assoc]
      (repeat' apply And.intro) <;> first | rfl | omega | assumption | (simp; omega) | exact lim_snoc hlw' hca | exact hvv
    · have hi' : i = a.length := by omega
      subst hi'
      refine xRF (jn h1 (jn h5 (jn h20 (jn h21 (jn h22 g))))) ?_
      rw [List.take_length] at hinv
      refine ⟨w, by omega, hlw, hinv, ?_⟩
      have e0 : w ++ List.replicate (a.length - a.length) 0 = w := by simp
      rw [e0]
      exact yA
  rintro ⟨ρ3, σ, c5⟩ ⟨w, hw, hlw, hvw, h5, hσ, hc5⟩
  dsimp only at h5 hσ hc5
  subst hσ
  refine v_freeze 5 (t := c) (off := 0) (n := a.length + b.length) (cap := some (a.length + b.length)) (l := w) (ySF h5) yS (by omega) (by omega) ?_
  rw [List.drop_zero, show w.take (a.length + b.length) = w from List.take_of_length_le (by omega)]
  refine xR ?_
  exact ⟨w, c, rfl, by omega, by omega, hlw, hw, hvw⟩

def RawR (c c' n m : Nat) (r : V) : Prop := ∃ l i, r = nats (.id i) l ∧ c ≤ i ∧ i < c' ∧ Lim 18446744073709551616 l ∧ l.length ≤ m ∧ val 18446744073709551616 l = n

theorem kar (X0 X1 Y0 Y1 P : Nat) : X0 * Y0 + P * ((X0 + X1) * (Y0 + Y1) - X0 * Y0 - X1 * Y1) + P * P * (X1 * Y1) = (X0 + P * X1) * (Y0 + P * Y1) ∧ X0 * Y0 ≤ (X0 + X1) * (Y0 + Y1) ∧ X1 * Y1 ≤ (X0 + X1) * (Y0 + Y1) - X0 * Y0 := by
  have e : (X0 + X1) * (Y0 + Y1) = X0 * Y0 + X0 * Y1 + X1 * Y0 + X1 * Y1 := by rw [Nat.add_mul, Nat.mul_add, Nat.mul_add]; omega
  have e2 : (X0 + X1) * (Y0 + Y1) - X0 * Y0 - X1 * Y1 = X0 * Y1 + X1 * Y0 := by omega
  have e3 : (X0 + P * X1) * (Y0 + P * Y1) = X0 * Y0 + P * (X0 * Y1 + X1 * Y0) + P * P * (X1 * Y1) := by
    simp only [Nat.add_mul, Nat.mul_add]
    rw [Nat.mul_left_comm X0 P Y1, Nat.mul_assoc P X1 Y0, show P * X1 * (P * Y1) = P * P * (X1 * Y1) by rw [Nat.mul_mul_mul_comm]]
    omega
  rw [e2, e3]
  exact ⟨rfl, by omega, by omega⟩
theorem prod_lt {x y : List Nat} (hx : Lim 18446744073709551616 x) (hy : Lim 18446744073709551616 y) : val 18446744073709551616 x * val 18446744073709551616 y < 18446744073709551616 ^ (x.length + y.length) := by
  rw [Nat.pow_add]
  exact Nat.mul_lt_mul'' (val_lt hx) (val_lt hy)

theorem halved_spec : ∀ (m0 : Nat) (t u : Tok) (a b : List Nat) (c : Nat), a.length + b.length = m0 → Lim 18446744073709551616 a → Lim 18446744073709551616 b → a.length ≤ 549755813888 → b.length ≤ 549755813888 →
    VSpec Try.prog F.mul_halved c [nats t a, nats u b, iv 40] (fun r c' => RawR c c' (val 18446744073709551616 a * val 18446744073709551616 b) (a.length + b.length + 1) r) := by
  intro m0
  induction m0 using Nat.strongRecOn with
  | _ m0 ih =>
  intro t u a b c hN ha hb hna hnb
  refine sG hm G.mul_halved ?_
  unfold C.mul_halved R.mul_halved cD
  refine xG ?_
  refine v_cut (fun S => ∃ t u x y, S.ρ 0 = nats t x ∧ S.ρ 1 = nats u y ∧ S.ρ 2 = iv 40 ∧ Lim 18446744073709551616 x ∧ Lim 18446744073709551616 y ∧ y.length ≤ x.length ∧ x.length + y.length = m0 ∧ x.length ≤ 549755813888 ∧ val 18446744073709551616 x * val 18446744073709551616 y = val 18446744073709551616 a * val 18446744073709551616 b ∧ S.σ = noBlk ∧ S.c = c) ?_ ?_
  · refine xR ?_
    refine ⟨fun g => ?_, fun g => ?_⟩
    · refine xR ?_
      exact ⟨u, t, b, a, rfl, rfl, hb, ha, by omega, by omega, by omega, Nat.mul_comm _ _⟩
    · refine vwp_skip ?_
      refine xS ?_
      exact ⟨t, u, a, b, rfl, rfl, ha, hb, by omega, hN, by omega, rfl⟩
  rintro ⟨ρ, σ, c1⟩ ⟨t, u, x, y, h0, h1, h2, hx, hy, hyx, hN2, hxn, hv, hσ, hc1⟩
  dsimp only at h0 h1 h2 hσ hc1
  subst hσ hc1
  rw [← hv, hN, ← hN2]
  by_cases g1 : (y.length : Int) < 40
  · refine xRF (jn h0 (jn h1 (jn h2 g1))) ?_
    refine s_call (school_spec t u x y c1 hx hy (by omega) (by omega)) (yMF (jn h0 h1)) ?_
    rintro v c2 hc2 ⟨l, i, rfl, hi1, hi2, hl, hll, hlv⟩
    refine xRF (jn h0 h1) ?_
    exact ⟨l, i, rfl, hi1, hi2, hl, by omega, hlv⟩
  have ek : ((x.length : Int) + 1) / 2 = (((x.length + 1) / 2 : Nat) : Int) := by omega
  have hk1 : (x.length + 1) / 2 ≤ x.length := by omega
  have hk2 : 2 * ((x.length + 1) / 2) ≤ x.length + 1 := by omega
  have hk3 : 20 ≤ (x.length + 1) / 2 := by omega
  have hXY := prod_lt hx hy
  have hXd := val_take_drop 18446744073709551616 ((x.length + 1) / 2) x hk1
  have hx0 : (x.drop 0).take ((x.length + 1) / 2 - 0) = x.take ((x.length + 1) / 2) := by simp
  have hx1 : (x.drop ((x.length + 1) / 2)).take (x.length - (x.length + 1) / 2) = x.drop ((x.length + 1) / 2) := List.take_of_length_le (by simp)
  have hxl : ((x.length + 1) / 2) + (x.length - (x.length + 1) / 2) = x.length := by omega
  generalize (x.length + 1) / 2 = k at *
  have hpow : 18446744073709551616 ^ (x.length + y.length) ≤ 18446744073709551616 ^ (x.length + y.length + 1) := Nat.pow_le_pow_right (by decide) (by omega)
  by_cases g2 : (y.length : Int) ≤ k
  · refine xRF (jn h0 (jn h1 (jn h2 (jn g1 (jn g2 ek))))) ?_
    refine s_mk (n := x.length + y.length + 1) (m := x.length + y.length + 1) (ySrF (jn h0 h1)) (ySrF (jn h0 h1)) (Nat.le_refl _) (by omega) ?_
    refine xRF (jn h0 (jn h1 h2)) ?_
    refine s_call (part_spec t x 0 k _ hx (by omega) (by omega)) yMr ?_
    rintro v c2 hc2 ⟨tk0, l0, rfl, hl0, hl0a, hl0b, hl0v⟩
    rw [hx0] at hl0v
    refine xRF (jn h0 (jn h1 h2)) ?_
    refine s_call (ih _ (by omega) tk0 u l0 y c2 rfl hl0 hy (by omega) (by omega)) yM ?_
    rintro v c3 hc3 ⟨p0, i0, rfl, hi01, hi02, hp0, hp0l, hp0v⟩
    rw [hl0v] at hp0v
    have hroom : val 18446744073709551616 (List.replicate (x.length + y.length + 1) 0) + 18446744073709551616 ^ 0 * val 18446744073709551616 p0 < 18446744073709551616 ^ (x.length + y.length + 1) := by
      rw [val_replicate, Nat.zero_add, Nat.pow_zero, Nat.one_mul, hp0v]
      refine Nat.lt_of_le_of_lt (Nat.mul_le_mul_right _ ?_) (Nat.lt_of_lt_of_le hXY hpow)
      rw [hXd]; exact Nat.le_add_right _ _
    refine xRF (jn h0 (jn h1 h2)) ?_
    refine s_call1 c1 (l := List.replicate (x.length + y.length + 1) 0) yS (fun s hs => by refine xS ?_; rw [if_neg (by omega)]; rfl) (addAt_spec c1 (.id i0) _ p0 0 (x.length + y.length + 1) c3 (some (x.length + y.length + 1)) (Lim.replicate (by decide)) hp0 (by simp) (by omega) (by omega) (by omega) hroom) yMr ?_
    rintro v σ' c4 hc4 ⟨rfl, w, hσ', hwn, hwl, hwv⟩
    rw [hσ']
    rw [val_replicate, Nat.zero_add, Nat.pow_zero, Nat.one_mul, hp0v] at hwv
    refine xRF (jn h0 (jn h1 h2)) ?_
    refine s_call (part_spec t x k x.length _ hx (by omega) (by omega)) yM ?_
    rintro v c5 hc5 ⟨tk1, l1, rfl, hl1, hl1a, hl1b, hl1v⟩
    rw [hx1] at hl1v
    refine xRF (jn h0 (jn h1 h2)) ?_
    refine s_call (ih _ (by omega) tk1 u l1 y c5 rfl hl1 hy (by omega) (by omega)) yM ?_
    rintro v c6 hc6 ⟨p1, i1, rfl, hi11, hi12, hp1, hp1l, hp1v⟩
    rw [hl1v] at hp1v
    have htot : val 18446744073709551616 w + 18446744073709551616 ^ k * val 18446744073709551616 p1 = val 18446744073709551616 x * val 18446744073709551616 y := by
      rw [hwv, hp1v, hXd, Nat.add_mul, Nat.mul_assoc]
    refine xRF (jn h0 (jn h1 h2)) ?_
    refine s_call1 c1 (l := w) yS (fun s hs => by refine xS ?_; rw [if_neg (by omega)]; rfl) (addAt_spec c1 (.id i1) w p1 k (x.length + y.length + 1) c6 (some (x.length + y.length + 1)) hwl hp1 hwn (by omega) (by omega) (by omega) (by rw [htot]; exact Nat.lt_of_lt_of_le hXY hpow)) yM ?_
    rintro v σ' c7 hc7 ⟨rfl, w2, hσ', hw2n, hw2l, hw2v⟩
    rw [hσ']
    rw [htot] at hw2v
    refine xS ?_
    refine v_freeze 8 (t := c1) (off := 0) (n := x.length + y.length + 1) (cap := some (x.length + y.length + 1)) (l := w2) yS yS (by omega) (by omega) ?_
    rw [List.drop_zero, show w2.take (x.length + y.length + 1) = w2 from List.take_of_length_le (by omega)]
    refine xR ?_
    exact ⟨w2, c1, rfl, by omega, by omega, hw2l, by omega, hw2v⟩
  have hYd := val_take_drop 18446744073709551616 k y (by omega)
  have hy0 : (y.drop 0).take (k - 0) = y.take k := by simp
  have hy1 : (y.drop k).take (y.length - k) = y.drop k := List.take_of_length_le (by simp)
  obtain ⟨kar1, kar2, kar3⟩ := kar (val 18446744073709551616 (x.take k)) (val 18446744073709551616 (x.drop k)) (val 18446744073709551616 (y.take k)) (val 18446744073709551616 (y.drop k)) (18446744073709551616 ^ k)
  rw [← hXd, ← hYd] at kar1
  generalize hX0 : val 18446744073709551616 (x.take k) = X0 at *
  generalize hX1 : val 18446744073709551616 (x.drop k) = X1 at *
  generalize hY0 : val 18446744073709551616 (y.take k) = Y0 at *
  generalize hY1 : val 18446744073709551616 (y.drop k) = Y1 at *
  refine xRF (jn h0 (jn h1 (jn h2 (jn g1 (jn g2 ek))))) ?_
  refine s_call (part_spec t x 0 k _ hx (by omega) (by omega)) yMr ?_
  rintro v c2 hc2 ⟨tk2, al, rfl, hal, hala, halb, halv⟩
  rw [hx0, hX0] at halv
  refine xRF (jn h0 (jn h1 h2)) ?_
  refine s_call (part_spec t x k x.length _ hx (by omega) (by omega)) yM ?_
  rintro v c3 hc3 ⟨tk3, ah, rfl, hah, haha, hahb, hahv⟩
  rw [hx1, hX1] at hahv
  refine xRF (jn h0 (jn h1 h2)) ?_
  refine s_call (part_spec u y 0 k _ hy (by omega) (by omega)) yMr ?_
  rintro v c4 hc4 ⟨tk4, bl', rfl, hbl, hbla, hblb, hblv⟩
  rw [hy0, hY0] at hblv
  refine xRF (jn h0 (jn h1 h2)) ?_
  refine s_call (part_spec u y k y.length _ hy (by omega) (by omega)) yM ?_
  rintro v c5 hc5 ⟨tk5, bh, rfl, hbh, hbha, hbhb, hbhv⟩
  rw [hy1, hY1] at hbhv
  refine xRF (jn h0 (jn h1 h2)) ?_
  refine s_call (ih _ (by omega) tk2 tk4 al bl' c5 rfl hal hbl (by omega) (by omega)) (yMF h2) ?_
  rintro v c6 hc6 ⟨low, i1, rfl, hi11, hi12, hlow, hlowl, hlowv⟩
  rw [halv, hblv] at hlowv
  refine xRF (jn h0 (jn h1 h2)) ?_
  refine s_call (ih _ (by omega) tk3 tk5 ah bh c6 rfl hah hbh (by omega) (by omega)) (yMF h2) ?_
  rintro v c7 hc7 ⟨high, i2, rfl, hi21, hi22, hhigh, hhighl, hhighv⟩
  rw [hahv, hbhv] at hhighv
  refine xRF (jn h0 (jn h1 h2)) ?_
  refine s_call (sum_spec tk2 tk3 al ah c7 hal hah (by omega) (by omega)) yM ?_
  rintro v c8 hc8 ⟨sx, i3, rfl, hi31, hi32, hsx, hsxl, hsxv⟩
  rw [halv, hahv] at hsxv
  refine xRF (jn h0 (jn h1 h2)) ?_
  refine s_call (norm_spec (.id i3) sx c8 hsx (by omega)) yM ?_
  rintro v c9 hc9 ⟨t3, rfl, ht3⟩
  have hdx := digs_len_le two64 hsx
  rw [hsxv] at hdx ⊢
  refine xRF (jn h0 (jn h1 h2)) ?_
  refine s_call (sum_spec tk4 tk5 bl' bh c9 hbl hbh (by omega) (by omega)) yM ?_
  rintro v c10 hc10 ⟨sy, i4, rfl, hi41, hi42, hsy, hsyl, hsyv⟩
  rw [hblv, hbhv] at hsyv
  refine xRF (jn h0 (jn h1 h2)) ?_
  refine s_call (norm_spec (.id i4) sy c10 hsy (by omega)) yM ?_
  rintro v c11 hc11 ⟨t4, rfl, ht4⟩
  have hdy := digs_len_le two64 hsy
  rw [hsyv] at hdy ⊢
  refine xRF (jn h0 (jn h1 h2)) ?_
  refine s_call (ih _ (by omega) t3 t4 (digs 18446744073709551616 (X0 + X1)) (digs 18446744073709551616 (Y0 + Y1)) c11 rfl (lim_digs two64 _) (lim_digs two64 _) (by omega) (by omega)) (yMF h2) ?_
  rintro v c12 hc12 ⟨mid, i5, rfl, hi51, hi52, hmid, hmidl, hmidv⟩
  rw [val_digs two64, val_digs two64] at hmidv
  refine xRF (jn h0 (jn h1 h2)) ?_
  refine s_call (less_spec (.id i5) (.id i1) mid low c12 hmid hlow (by omega) (by omega) (by rw [hmidv, hlowv]; exact kar2)) yM ?_
  rintro v c13 hc13 ⟨m1, i6, rfl, hi61, hi62, hm1, hm1l, hm1v⟩
  rw [hmidv, hlowv] at hm1v
  refine xRF (jn h0 (jn h1 h2)) ?_
  refine s_call (less_spec (.id i6) (.id i2) m1 high c13 hm1 hhigh (by omega) (by omega) (by rw [hm1v, hhighv]; exact kar3)) yM ?_
  rintro v c14 hc14 ⟨m2, i7, rfl, hi71, hi72, hm2, hm2l, hm2v⟩
  rw [hm1v, hhighv] at hm2v
  rw [← hm2v, ← hlowv, ← hhighv] at kar1
  have hpow2 : 18446744073709551616 ^ k * 18446744073709551616 ^ k = 18446744073709551616 ^ (2 * k) := by rw [← Nat.pow_add]; congr 1; omega
  rw [hpow2] at kar1
  have hroomT : val 18446744073709551616 low + 18446744073709551616 ^ k * val 18446744073709551616 m2 + 18446744073709551616 ^ (2 * k) * val 18446744073709551616 high < 18446744073709551616 ^ (x.length + y.length + 1) := by
    rw [kar1]; exact Nat.lt_of_lt_of_le hXY hpow
  refine xRF (jn h0 (jn h1 h2)) ?_
  refine s_mk (n := x.length + y.length + 1) (m := x.length + y.length + 1) (ySrF (jn h0 h1)) (ySrF (jn h0 h1)) (Nat.le_refl _) (by omega) ?_
  refine xRF (jn h0 (jn h1 h2)) ?_
  refine s_call1 c14 (l := List.replicate (x.length + y.length + 1) 0) yS (fun s hs => by refine xS ?_; rw [if_neg (by omega)]; rfl) (addAt_spec c14 (.id i1) _ low 0 (x.length + y.length + 1) (c14 + 1) (some (x.length + y.length + 1)) (Lim.replicate (by decide)) hlow (by simp) (by omega) (by omega) (by omega) (by rw [val_replicate, Nat.zero_add, Nat.pow_zero, Nat.one_mul]; omega)) yMr ?_
  rintro v σ' c15 hc15 ⟨rfl, w, hσ', hwn, hwl, hwv⟩
  rw [hσ']
  rw [val_replicate, Nat.zero_add, Nat.pow_zero, Nat.one_mul] at hwv
  refine xRF (jn h0 (jn h1 h2)) ?_
  refine s_call1 c14 (l := w) yS (fun s hs => by refine xS ?_; rw [if_neg (by omega)]; rfl) (addAt_spec c14 (.id i7) w m2 k (x.length + y.length + 1) c15 (some (x.length + y.length + 1)) hwl hm2 hwn (by omega) (by omega) (by omega) (by rw [hwv]; omega)) yM ?_
  rintro v σ' c16 hc16 ⟨rfl, w2, hσ', hw2n, hw2l, hw2v⟩
  rw [hσ']
  rw [hwv] at hw2v
  have e2k : 2 * (k : Int) = ((2 * k : Nat) : Int) := by omega
  refine xRF (jn h0 (jn h1 (jn h2 e2k))) ?_
  refine s_call1 c14 (l := w2) yS (fun s hs => by refine xS ?_; rw [if_neg (by omega)]; rfl) (addAt_spec c14 (.id i2) w2 high (2 * k) (x.length + y.length + 1) c16 (some (x.length + y.length + 1)) hw2l hhigh hw2n (by omega) (by omega) (by omega) (by rw [hw2v]; exact hroomT)) yM ?_
  rintro v σ' c17 hc17 ⟨rfl, w3, hσ', hw3n, hw3l, hw3v⟩
  rw [hσ']
  rw [hw2v, kar1] at hw3v
  refine xS ?_
  refine v_freeze 16 (t := c14) (off := 0) (n := x.length + y.length + 1) (cap := some (x.length + y.length + 1)) (l := w3) yS yS (by omega) (by omega) ?_
  rw [List.drop_zero, show w3.take (x.length + y.length + 1) = w3 from List.take_of_length_le (by omega)]
  refine xR ?_
  exact ⟨w3, c14, rfl, by omega, by omega, hw3l, by omega, hw3v⟩

theorem mfits_spec (t : Tok) (l : List Nat) (c : Nat) (hl : Lim 18446744073709551616 l) (hn : l.length ≤ 4398046511104) : VSpec Try.prog F.mul_fits c [nats t l] (fun r c' => Told c c' (val 18446744073709551616 l) r) := by
  refine sG hm G.mul_fits ?_
  unfold C.mul_fits R.mul_fits cD
  have hlen := digs_len_le two64 hl
  refine xR ?_
  refine s_call (norm_spec t l c hl hn) yM ?_
  rintro v c2 hc2 ⟨t2, rfl, ht2⟩
  refine xR ?_
  refine s_call (length_spec t2 (digs 18446744073709551616 (val 18446744073709551616 l)) c2 (lim_digs two64 _) (by omega)) yM ?_
  rintro v c3 hc3 rfl
  rw [val_digs two64]
  refine xR ?_
  refine ⟨fun g => ?_, fun g => ?_⟩
  · refine xR ?_
    exact .inr ⟨by omega, rfl⟩
  · refine xR ?_
    exact .inl ⟨by omega, t2, rfl, ht2.mono (Nat.le_refl _) hc3⟩

theorem great_spec (t u : Tok) (a b : List Nat) (c : Nat) (ha : Lim 18446744073709551616 a) (hb : Lim 18446744073709551616 b) (hna : a.length ≤ 1099511627776) (hnb : b.length ≤ 1099511627776) :
    VSpec Try.prog F.mul_great c [nats t a, nats u b] (fun r c' => ∃ g, r = bv g ∧ (g = true → 67108864 < bl (val 18446744073709551616 a * val 18446744073709551616 b)) ∧ (g = false → a.length + b.length ≤ 4398046511104)) := by
  refine sG hm G.mul_great ?_
  unfold C.mul_great R.mul_great cD
  have h1 : bl (val 18446744073709551616 a) ≤ 64 * a.length := by
    refine bl_le ?_
    have := val_lt ha
    rw [pow64] at this
    exact this
  have h2 : bl (val 18446744073709551616 b) ≤ 64 * b.length := by
    refine bl_le ?_
    have := val_lt hb
    rw [pow64] at this
    exact this
  refine xR ?_
  refine s_call (length_spec t a c ha (by omega)) yM ?_
  rintro v c2 hc2 rfl
  refine xR ?_
  refine s_call (length_spec u b c2 hb (by omega)) yM ?_
  rintro v c3 hc3 rfl
  by_cases g1 : (0 : Int) < bl (val 18446744073709551616 a)
  · by_cases g2 : (0 : Int) < bl (val 18446744073709551616 b)
    · refine xRF (jn g1 g2) ?_
      refine ⟨_, rfl, fun h => ?_, fun _ => by omega⟩
      have h := of_decide_eq_true h
      have p1 := le_of_bl (n := val 18446744073709551616 a) (by rcases Nat.eq_zero_or_pos (val 18446744073709551616 a) with e | e; rw [e] at g1; simp [bl] at g1; exact e)
      have p2 := le_of_bl (n := val 18446744073709551616 b) (by rcases Nat.eq_zero_or_pos (val 18446744073709551616 b) with e | e; rw [e] at g2; simp [bl] at g2; exact e)
      have p3 := Nat.mul_le_mul p1 p2
      rw [← Nat.pow_add] at p3
      have p4 : ¬ bl (val 18446744073709551616 a * val 18446744073709551616 b) ≤ bl (val 18446744073709551616 a) - 1 + (bl (val 18446744073709551616 b) - 1) := fun h => by
        have := lt_of_bl h
        omega
      omega
    · refine xRF (jn g1 g2) ?_
      exact ⟨_, rfl, (fun h => by cases h), fun _ => by omega⟩
  · refine xRF g1 ?_
    exact ⟨_, rfl, (fun h => by cases h), fun _ => by omega⟩

theorem mul1_spec (t u : Tok) (a b : List Nat) (c : Nat) (ha : Lim 18446744073709551616 a) (hb : Lim 18446744073709551616 b) (hna : a.length ≤ 549755813888) (hnb : b.length ≤ 549755813888) :
    VSpec Try.prog F.mul_Mul_1 c [nats t a, nats u b] (fun r c' => RawR c c' (val 18446744073709551616 a * val 18446744073709551616 b) (a.length + b.length + 1) r) := by
  refine sG hm G.mul_Mul_1 ?_
  unfold C.mul_Mul_1 R.mul_Mul_1 cD
  refine xR ?_
  refine s_call (halved_spec _ t u a b c rfl ha hb hna hnb) yM ?_
  rintro v c2 hc2 ⟨l, i, rfl, h1, h2, h3, h4, h5⟩
  refine xR ?_
  exact ⟨l, i, rfl, h1, h2, h3, h4, h5⟩

theorem product_spec (t u : Tok) (a b : List Nat) (c : Nat) (ha : Lim 18446744073709551616 a) (hb : Lim 18446744073709551616 b) (hna : a.length ≤ 549755813888) (hnb : b.length ≤ 549755813888) :
    VSpec Try.prog F.mul_product c [nats t a, nats u b, .lit (.func (.func F.mul_Mul_1) #[] #[])] (fun r c' => Told c c' (val 18446744073709551616 a * val 18446744073709551616 b) r) := by
  refine sG hm G.mul_product ?_
  unfold C.mul_product R.mul_product cD
  have hla := digs_len_le two64 ha
  have hlb := digs_len_le two64 hb
  refine xR ?_
  refine s_call (norm_spec t a c ha (by omega)) yM ?_
  rintro v c2 hc2 ⟨t2, rfl, ht2⟩
  refine xR ?_
  refine s_call (norm_spec u b c2 hb (by omega)) yM ?_
  rintro v c3 hc3 ⟨u2, rfl, hu2⟩
  have hx := lim_digs two64 (val 18446744073709551616 a)
  have hy := lim_digs two64 (val 18446744073709551616 b)
  have va := val_digs two64 (val 18446744073709551616 a)
  have vb := val_digs two64 (val 18446744073709551616 b)
  refine xR ?_
  refine s_call (great_spec t2 u2 _ _ c3 hx hy (by omega) (by omega)) yM ?_
  rintro v c4 hc4 ⟨g, rfl, hg1, hg2⟩
  rw [va, vb] at hg1
  cases g with
  | true =>
    refine xR ?_
    exact .inr ⟨hg1 rfl, rfl⟩
  | false =>
    refine xR ?_
    refine s_callv (f := F.mul_Mul_1) yS ⟨_, _, G.mul_Mul_1.e, by kernel_rfl, G.mul_Mul_1.b⟩ (mul1_spec t2 u2 _ _ c4 hx hy (by omega) (by omega)) yM ?_
    rintro v c5 hc5 ⟨l, i, rfl, h1, h2, h3, h4, h5⟩
    rw [va, vb] at h5
    refine xR ?_
    refine s_call (mfits_spec (.id i) l c5 h3 (by omega)) yM ?_
    rintro v c6 hc6 (⟨hb1, t6, rfl, ht6⟩ | ⟨hb1, rfl⟩)
    · rw [h5] at hb1 ⊢
      refine xR ?_
      exact .inl ⟨hb1, t6, rfl, ht6.mono (by omega) (Nat.le_refl _)⟩
    · rw [h5] at hb1
      refine xR ?_
      exact .inr ⟨hb1, rfl⟩

theorem mul_spec (t u : Tok) (a b : List Nat) (c : Nat) (ha : Lim 18446744073709551616 a) (hb : Lim 18446744073709551616 b) (hna : a.length ≤ 549755813888) (hnb : b.length ≤ 549755813888) :
    VSpec Try.prog F.mul_Mul c [nats t a, nats u b] (fun r c' => Told c c' (val 18446744073709551616 a * val 18446744073709551616 b) r) := by
  refine sG hm G.mul_Mul ?_
  unfold C.mul_Mul R.mul_Mul cD
  refine xR ?_
  refine s_call (product_spec t u a b c ha hb hna hnb) yM ?_
  rintro v c2 hc2 (⟨hb1, t6, rfl, ht6⟩ | ⟨hb1, rfl⟩)
  · refine xR ?_
    exact .inl ⟨hb1, t6, rfl, ht6⟩
  · refine xR ?_
    exact .inr ⟨hb1, rfl⟩

theorem square_spec (t : Tok) (a : List Nat) (c : Nat) (ha : Lim 18446744073709551616 a) (hna : a.length ≤ 549755813888) :
    VSpec Try.prog F.mul_Square c [nats t a] (fun r c' => Told c c' (val 18446744073709551616 a * val 18446744073709551616 a) r) := by
  refine sG hm G.mul_Square ?_
  unfold C.mul_Square R.mul_Square cD
  refine xR ?_
  refine s_call (mul_spec t t a a c ha ha hna hna) yM ?_
  rintro v c2 hc2 (⟨hb1, t6, rfl, ht6⟩ | ⟨hb1, rfl⟩)
  · refine xR ?_
    exact .inl ⟨hb1, t6, rfl, ht6⟩
  · refine xR ?_
    exact .inr ⟨hb1, rfl⟩

theorem pow_spec (t : Tok) (a : List Nat) (n c : Nat) (ha : Lim 18446744073709551616 a) (hna : a.length ≤ 1073741824) (hn : n < 9223372036854775808) :
    VSpec Try.prog F.mul_Pow c [nats t a, iv n] (fun r c' => Told c c' (val 18446744073709551616 a ^ n) r) := by
  refine sG hm G.mul_Pow ?_
  unfold C.mul_Pow R.mul_Pow cD
  have hla := digs_len_le two64 ha
  have hx := lim_digs two64 (val 18446744073709551616 a)
  have va := val_digs two64 (val 18446744073709551616 a)
  have g1 : ¬ (n : Int) < 0 := by omega
  refine xRF g1 ?_
  refine s_call (norm_spec t a c ha (by omega)) yM ?_
  rintro v c2 hc2 ⟨t2, rfl, ht2⟩
  by_cases g2 : (n : Int) = 0
  · refine xRF g2 ?_
    refine s_call (from_spec 1 c2 (by decide)) yM ?_
    rintro v c3 hc3 ⟨t3, rfl, ht3⟩
    refine xRF g2 ?_
    have hn0 : n = 0 := by omega
    subst hn0
    rw [Nat.pow_zero]
    exact .inl ⟨by decide, t3, rfl, ht3.mono hc2 (Nat.le_refl _)⟩
  refine xRF g2 ?_
  refine s_call (length_spec t2 _ c2 hx (by omega)) yM ?_
  rintro v c3 hc3 rfl
  rw [va]
  by_cases g3 : (bl (val 18446744073709551616 a) : Int) ≤ 1
  · refine xRF (jn g2 g3) ?_
    have hA : val 18446744073709551616 a = 0 ∨ val 18446744073709551616 a = 1 := by
      have := lt_of_bl (show bl (val 18446744073709551616 a) ≤ 1 by omega)
      omega
    have : val 18446744073709551616 a ^ n = val 18446744073709551616 a := by
      rcases hA with e | e <;> rw [e]
      · exact Nat.zero_pow (by omega)
      · exact Nat.one_pow n
    rw [this]
    exact .inl ⟨by omega, t2, rfl, ht2.mono (Nat.le_refl _) hc3⟩
  have hA2 : 2 ≤ val 18446744073709551616 a := by
    rcases Nat.lt_or_ge (val 18446744073709551616 a) 2 with g | g
    · have := bl_le (k := 1) g; omega
    · exact g
  have hlow := bl_pow_low (A := val 18446744073709551616 a) (n := n) (by omega)
  have hblA : bl (val 18446744073709551616 a) ≤ 64 * a.length := by
    refine bl_le ?_
    have := val_lt ha
    rw [pow64] at this
    exact this
  by_cases g4 : (67108864 : Int) < n
  · refine xRF (jn g2 (jn g3 g4)) ?_
    refine .inr ⟨?_, rfl⟩
    have : 1 * n ≤ (bl (val 18446744073709551616 a) - 1) * n := Nat.mul_le_mul_right _ (by omega)
    omega
  have hprod : ((bl (val 18446744073709551616 a) : Int) - 1) * n = (((bl (val 18446744073709551616 a) - 1) * n : Nat) : Int) := by
    rw [Int.natCast_mul]; congr 1; omega
  have hprodle : (bl (val 18446744073709551616 a) - 1) * n ≤ 64 * 1073741824 * 67108864 := Nat.mul_le_mul (by omega) (by omega)
  obtain ⟨q, hq⟩ : ∃ q, q = (bl (val 18446744073709551616 a) - 1) * n := ⟨_, rfl⟩
  rw [← hq] at hprod hprodle hlow
  by_cases g5 : (67108864 : Int) < (q : Int) + 1
  · refine xRF (jn g2 (jn g3 (jn g4 (jn hprod g5)))) ?_
    exact .inr ⟨by omega, rfl⟩
  refine xRF (jn g2 (jn g3 (jn g4 (jn hprod g5)))) ?_
  refine s_call (from_spec 1 c3 (by decide)) yM ?_
  rintro v c4 hc4 ⟨t3, rfl, ht3⟩
  refine xR ?_
  have ht30 : Tk c c4 t3 := ht3.mono (by omega) (Nat.le_refl _)
  refine v_loopR (fun S => ∃ t, bl (val 18446744073709551616 a ^ n) ≤ 67108864 ∧ Tk c S.c t ∧ S.ρ 7 = nats t (digs 18446744073709551616 (val 18446744073709551616 a ^ n)) ∧ S.σ = noBlk ∧ c3 ≤ S.c) ?_ ?_
  · refine vwp_loop (fun m S => ∃ k t, m = k ∧ k ≤ 63 ∧ bl (val 18446744073709551616 a ^ (n / 2 ^ k)) ≤ 67108864 ∧ Tk c S.c t ∧ S.ρ 0 = nats t2 (digs 18446744073709551616 (val 18446744073709551616 a)) ∧ S.ρ 1 = iv n ∧ S.ρ 7 = nats t (digs 18446744073709551616 (val 18446744073709551616 a ^ (n / 2 ^ k))) ∧ S.ρ 8 = iv ((k : Int) - 1) ∧ S.σ = noBlk ∧ c3 ≤ S.c) 63 ?_ ?_
    · have e0 : n / 2 ^ 63 = 0 := by omega
      refine ⟨63, t3, rfl, ?_⟩
      rw [e0, Nat.pow_zero]
      refine xS ?_
      (repeat' apply And.intro) <;> first | rfl | omega | assumption | decide
    rintro m ⟨ρ2, σ, c5⟩ ⟨k, t4, hm', hk, hb4, ht4, h0, h1, h7, h8, hσ, hc5⟩
    dsimp only at ht4 h0 h1 h7 h8 hσ hc5
    subst hσ
    rcases Nat.eq_zero_or_pos k with rfl | hkp
    · have g : ¬ (0 : Int) ≤ ((0 : Nat) : Int) - 1 := by omega
      rw [Nat.pow_zero, Nat.div_one] at hb4 h7
      refine xRF (jn h8 g) ?_
      exact ⟨t4, hb4, ht4, h7, hc5⟩
    obtain ⟨i, rfl⟩ : ∃ i, k = i + 1 := ⟨k - 1, by omega⟩
    have e1 : (((i + 1 : Nat) : Int) - 1) = (i : Int) := by omega
    rw [e1] at h8
    have hi0 : (0 : Int) ≤ (i : Int) := by omega
    have emin : min i 64 = i := by omega
    have hpos : 0 < val 18446744073709551616 a ^ (n / 2 ^ (i + 1)) := Nat.pow_pos (by omega)
    have hlen : (digs 18446744073709551616 (val 18446744073709551616 a ^ (n / 2 ^ (i + 1)))).length ≤ 1048576 := digs_len_bl (by omega)
    have hg : (0 : Int) < (digs 18446744073709551616 (val 18446744073709551616 a ^ (n / 2 ^ (i + 1)))).length := by
      have : digs 18446744073709551616 (val 18446744073709551616 a ^ (n / 2 ^ (i + 1))) ≠ [] := fun e => by have := (digs_eq_nil two64).1 e; omega
      have := List.length_pos_iff.2 this
      omega
    have hld := lim_digs two64 (val 18446744073709551616 a ^ (n / 2 ^ (i + 1)))
    have hvd := val_digs two64 (val 18446744073709551616 a ^ (n / 2 ^ (i + 1)))
    have hhalf := pow_half (val 18446744073709551616 a) n i
    have hle : val 18446744073709551616 a ^ (n / 2 ^ i) ≤ val 18446744073709551616 a ^ n := Nat.pow_le_pow_right (by omega) (Nat.div_le_self _ _)
    generalize val 18446744073709551616 a ^ (n / 2 ^ (i + 1)) = o at *
    refine xRF (jn h0 (jn h1 (jn h7 (jn h8 (jn hi0 hg))))) ?_
    refine s_call (square_spec t4 _ c5 hld (by omega)) (yMF h7) ?_
    rw [hvd]
    have g30 : ¬ (3 : Int) = 0 := by omega
    rintro v c6 hc6 (⟨hb6, t6, rfl, ht6⟩ | ⟨hb6, rfl⟩)
    · by_cases gb : n / 2 ^ i % 2 = 1
      · rw [if_pos gb] at hhalf
        have hlen2 : (digs 18446744073709551616 (o * o)).length ≤ 1048576 := digs_len_bl (by omega)
        have hld2 := lim_digs two64 (o * o)
        have hvd2 := val_digs two64 (o * o)
        generalize digs 18446744073709551616 (o * o) = oo at *
        have gbi : ((n / 2 ^ i % 2 : Nat) : Int) = 1 := by omega
        refine xRF (jn h0 (jn h1 (jn h7 (jn h8 (jn emin gbi))))) ?_
        refine s_call (mul_spec t6 t2 oo (digs 18446744073709551616 (val 18446744073709551616 a)) c6 hld2 hx (by omega) (by omega)) (yMF h0) ?_
        rw [hvd2, va]
        rintro v c7 hc7 (⟨hb7, t7, rfl, ht7⟩ | ⟨hb7, rfl⟩)
        · refine xRF (jn h0 (jn h1 (jn h7 (jn h8 g30)))) ?_
          rw [← hhalf] at hb7 ⊢
          exact ⟨i, by omega, i, t7, rfl, by omega, hb7, ht7.mono (by omega) (Nat.le_refl _), rfl, rfl, by omega⟩
        · refine xRF (jn h0 (jn h1 (jn h7 (jn h8 g30)))) ?_
          rw [← hhalf] at hb7
          exact .inr ⟨Nat.lt_of_lt_of_le hb7 (bl_mono hle), rfl⟩
      · rw [if_neg gb, Nat.mul_one] at hhalf
        have gbi : ¬ ((n / 2 ^ i % 2 : Nat) : Int) = 1 := by omega
        refine xRF (jn h0 (jn h1 (jn h7 (jn h8 (jn emin gbi))))) ?_
        rw [← hhalf] at hb6 ⊢
        exact ⟨i, by omega, i, t6, rfl, by omega, hb6, ht6.mono (by omega) (Nat.le_refl _), rfl, rfl, by omega⟩
    · refine xRF (jn h0 (jn h1 (jn h7 (jn h8 g30)))) ?_
      refine .inr ⟨?_, rfl⟩
      refine Nat.lt_of_lt_of_le hb6 (bl_mono (Nat.le_trans ?_ hle))
      rw [hhalf]
      refine Nat.le_mul_of_pos_right _ ?_
      split <;> omega
  rintro ⟨ρ3, σ, c5⟩ ⟨t5, hb5, ht5, h7, hσ, hc5⟩
  dsimp only at ht5 h7 hσ hc5
  subst hσ
  refine xRF h7 ?_
  exact .inl ⟨hb5, t5, rfl, ht5⟩

theorem up_spec (t : Tok) (a : List Nat) (s c : Nat) (ha : Lim 18446744073709551616 a) (hs : s < 64) (hna : a.length ≤ 1099511627776) :
    VSpec Try.prog F.div_up c [nats t a, nv s] (fun r c' => ∃ l i, r = nats (.id i) l ∧ c ≤ i ∧ i < c' ∧ Lim 18446744073709551616 l ∧ l.length = a.length + 1 ∧ val 18446744073709551616 l = val 18446744073709551616 a * 2 ^ s) := by
  refine sG hm G.div_up ?_
  unfold C.div_up R.div_up cD
  refine xR ?_
  refine s_mk (n := a.length + 1) (m := a.length + 1) ySr ySr (Nat.le_refl _) (by omega) ?_
  refine xR ?_
  refine v_loop (fun S => ∃ w, w.length = a.length + 1 ∧ Lim 18446744073709551616 w ∧ val 18446744073709551616 w = val 18446744073709551616 a * 2 ^ s ∧ S.ρ 5 = .buf c 0 (a.length + 1) (some (a.length + 1)) 1 ∧ S.σ = supd noBlk c (nblk w) ∧ c + 1 ≤ S.c) ?_ ?_
  · refine vwp_loop (fun k S => ∃ i w top, k = a.length - i ∧ i ≤ a.length ∧ w.length = i ∧ Lim 18446744073709551616 w ∧ top < 2 ^ s ∧ val 18446744073709551616 (w ++ [top]) = val 18446744073709551616 (a.take i) * 2 ^ s ∧ S.ρ 12 = nats t a ∧ S.ρ 1 = nv s ∧ S.ρ 13 = iv a.length ∧ S.ρ 14 = iv i ∧ S.ρ 5 = .buf c 0 (a.length + 1) (some (a.length + 1)) 1 ∧ S.σ = supd noBlk c (nblk (w ++ top :: List.replicate (a.length - i) 0)) ∧ c + 1 ≤ S.c) a.length ?_ ?_
    · refine ⟨0, [], 0, by omega, by omega, ?_⟩
      refine xS ?_
      (repeat' apply And.intro) <;> first | rfl | omega | assumption | exact Lim.nil | exact Nat.two_pow_pos s | (simp [val]; done) | (rw [List.nil_append, Nat.sub_zero, List.replicate_succ])
    rintro k ⟨ρ2, σ, c4⟩ ⟨i, w, top, hk, hi, hw, hlw, ht, hinv, h12, h1, h13, h14, h5, hσ, hc4⟩
    dsimp only at h12 h1 h13 h14 h5 hσ hc4
    subst hσ
    by_cases g : (i : Int) < a.length
    · have hi' : i < a.length := by omega
      have hxi := ha.getD (i := i) (by decide)
      obtain ⟨p1, p2, p3⟩ := shl_parts hs hxi
      obtain ⟨o1, o2⟩ := or_top hs hxi ht
      have e2 : ((i : Int) + 1).toNat = i + 1 := by omega
      have e3 : min s 64 = s := by omega
      have e4 : (63 + (18446744073709551616 - s % 18446744073709551616)) % 18446744073709551616 = 63 - s := by omega
      have e5 : min (63 - s) 64 = 63 - s := by omega
      have hps : 2 ^ s ≤ 18446744073709551616 := Nat.le_trans (Nat.pow_le_pow_right (by decide) (show s ≤ 64 by omega)) (by decide)
      have e6 : top % 18446744073709551616 = top := Nat.mod_eq_of_lt (by omega)
      have hget1 : (w ++ top :: List.replicate (a.length - i) 0).getD i 0 = top := by rw [← hw]; exact getD_at _ _ _
      have hlen1 : (w ++ top :: List.replicate (a.length - i) 0).length = a.length + 1 := by simp; omega
      have hset1 : ∀ v, (w ++ top :: List.replicate (a.length - i) 0).set i v = (w ++ [v]) ++ 0 :: List.replicate (a.length - (i + 1)) 0 := fun v => by
        conv => lhs; rw [← hw]
        rw [set_at, show a.length - w.length = a.length - (i + 1) + 1 by omega, List.replicate_succ]; simp
      have hl2 : ∀ v, (w ++ [v]).length = i + 1 := fun v => by simp; omega
      have hlen2 : ∀ v, ((w ++ [v]) ++ 0 :: List.replicate (a.length - (i + 1)) 0).length = a.length + 1 := fun v => by simp; omega
      have hset2 : ∀ v u, ((w ++ [v]) ++ 0 :: List.replicate (a.length - (i + 1)) 0).set (i + 1) u = (w ++ [v]) ++ u :: List.replicate (a.length - (i + 1)) 0 := fun v u => by
        rw [← hl2 v, set_at]
      have key := shl_step (i := i) hw hinv p1
      rw [← Nat.mul_assoc, ← Nat.add_mul, ← val_take (l := a) (i := i) hi'] at key
      refine xRF (jn h12 (jn h1 (jn h13 (jn h14 (jn h5 (jn g (jn e2 (jn e3 (jn e4 (jn e5 (jn hget1 (jn hlen1 (jn hset1 (jn @u_or (jn e6 (jn @Nat.mod_mod (jn o1 (jn hlen2 hset2)))))))))))))))))) ?_
      refine ⟨a.length - (i + 1), by omega, i + 1, w ++ [top + a.getD i 0 * 2 ^ s % 18446744073709551616], a.getD i 0 / 2 / 2 ^ (63 - s), ?_⟩
      (repeat' apply And.intro) <;> first | rfl | omega | assumption | (simp [hw]; done) | exact lim_snoc hlw o2 | exact key
    · have hi' : i = a.length := by omega
      subst hi'
      refine xRF (jn h12 (jn h1 (jn h13 (jn h14 (jn h5 g))))) ?_
      rw [List.take_length] at hinv
      have hps : 2 ^ s ≤ 18446744073709551616 := Nat.le_trans (Nat.pow_le_pow_right (by decide) (show s ≤ 64 by omega)) (by decide)
      refine ⟨w ++ [top], ?_⟩
      have e0 : w ++ top :: List.replicate (a.length - a.length) 0 = w ++ [top] := by simp
      rw [e0]
      (repeat' apply And.intro) <;> first | rfl | omega | assumption | (simp [hw]; done) | exact lim_snoc hlw (by omega) | exact hinv
  rintro ⟨ρ3, σ, c5⟩ ⟨w, hw, hlw, hvw, h5, hσ, hc5⟩
  dsimp only at h5 hσ hc5
  subst hσ
  refine v_freeze 5 (t := c) (off := 0) (n := a.length + 1) (cap := some (a.length + 1)) (l := w) (ySF h5) yS (by omega) (by omega) ?_
  rw [List.drop_zero, show w.take (a.length + 1) = w from List.take_of_length_le (by omega)]
  refine xR ?_
  exact ⟨w, c, rfl, by omega, by omega, hlw, hw, hvw⟩

theorem down_spec (t : Tok) (a : List Nat) (s c : Nat) (ha : Lim 18446744073709551616 a) (hs : s < 64) (hna : a.length ≤ 1099511627776) :
    VSpec Try.prog F.div_down c [nats t a, nv s] (fun r c' => NatR c c' (val 18446744073709551616 a / 2 ^ s) r) := by
  refine sG hm G.div_down ?_
  unfold C.div_down R.div_down cD
  refine xR ?_
  refine s_mk (n := a.length) (m := a.length) yS yS (Nat.le_refl _) (by omega) ?_
  refine xR ?_
  have hp : (18446744073709551616 : Nat) = 2 ^ s * 2 ^ (64 - s) := by rw [← Nat.pow_add, show s + (64 - s) = 64 by omega]
  refine v_loop (fun S => ∃ w, w.length = a.length ∧ Lim 18446744073709551616 w ∧ val 18446744073709551616 w = val 18446744073709551616 a / 2 ^ s ∧ S.ρ 5 = .buf c 0 a.length (some a.length) 1 ∧ S.σ = supd noBlk c (nblk w) ∧ c + 1 ≤ S.c) ?_ ?_
  · refine vwp_loop (fun k S => ∃ i w, k = a.length - i ∧ i ≤ a.length ∧ w.length = i ∧ Lim 18446744073709551616 w ∧ val 18446744073709551616 w * 2 ^ s + a.getD 0 0 % 2 ^ s = val 18446744073709551616 (a.take i) + 18446744073709551616 ^ i * (a.getD i 0 % 2 ^ s) ∧ S.ρ 0 = nats t a ∧ S.ρ 1 = nv s ∧ S.ρ 11 = nats t a ∧ S.ρ 12 = iv a.length ∧ S.ρ 13 = iv i ∧ S.ρ 5 = .buf c 0 a.length (some a.length) 1 ∧ S.σ = supd noBlk c (nblk (w ++ List.replicate (a.length - i) 0)) ∧ c + 1 ≤ S.c) a.length ?_ ?_
    · refine ⟨0, [], by omega, by omega, ?_⟩
      refine xS ?_
      (repeat' apply And.intro) <;> first | rfl | omega | assumption | exact Lim.nil | (simp [val]; done)
    rintro k ⟨ρ2, σ, c4⟩ ⟨i, w, hk, hi, hw, hlw, hinv, h0, h1, h11, h12, h13, h5, hσ, hc4⟩
    dsimp only at h0 h1 h11 h12 h13 h5 hσ hc4
    subst hσ
    by_cases g : (i : Int) < a.length
    · have hi' : i < a.length := by omega
      have hxi := ha.getD (i := i) (by decide)
      obtain ⟨o1, o2⟩ := down_limb (y := a.getD (i + 1) 0) hs hxi
      have e2 : ((i : Int) + 1).toNat = i + 1 := by omega
      have e3 : min s 64 = s := by omega
      have e4 : (63 + (18446744073709551616 - s % 18446744073709551616)) % 18446744073709551616 = 63 - s := by omega
      have e5 : min (63 - s) 64 = 63 - s := by omega
      have e6 : a.getD i 0 / 2 ^ s < 18446744073709551616 := Nat.lt_of_le_of_lt (Nat.div_le_self _ _) hxi
      have e7 : a.getD i 0 / 2 ^ s % 18446744073709551616 = a.getD i 0 / 2 ^ s := Nat.mod_eq_of_lt e6
      have hlen1 : (w ++ List.replicate (a.length - i) 0).length = a.length := by simp; omega
      have hset1 : ∀ v, (w ++ List.replicate (a.length - i) 0).set i v = w ++ v :: List.replicate (a.length - (i + 1)) 0 := fun v => by
        conv => lhs; rw [← hw]
        rw [show a.length - w.length = a.length - (i + 1) + 1 by omega, List.replicate_succ, set_at]
      have hlen2 : ∀ v, (w ++ v :: List.replicate (a.length - (i + 1)) 0).length = a.length := fun v => by simp; omega
      have hget2 : ∀ v, (w ++ v :: List.replicate (a.length - (i + 1)) 0).getD i 0 = v := fun v => by rw [← hw]; exact getD_at _ _ _
      have hset2 : ∀ v u, (w ++ v :: List.replicate (a.length - (i + 1)) 0).set i u = w ++ u :: List.replicate (a.length - (i + 1)) 0 := fun v u => by
        conv => lhs; rw [← hw]
        rw [set_at, hw]
      have key := down_step (y := a.getD (i + 1) 0) hw hinv hp rfl
      rw [← val_take (l := a) (i := i) hi'] at key
      have eapp : ∀ v, w ++ v :: List.replicate (a.length - (i + 1)) 0 = (w ++ [v]) ++ List.replicate (a.length - (i + 1)) 0 := fun v => by simp
      by_cases g2 : (i : Int) + 1 < a.length
      · refine xRF (jn h0 (jn h1 (jn h11 (jn h12 (jn h13 (jn h5 (jn g (jn g2 (jn e2 (jn e3 (jn e4 (jn e5 (jn e7 (jn hlen1 (jn hset1 (jn hlen2 (jn hget2 (jn hset2 (jn @u_or (jn @Nat.mod_mod o1)))))))))))))))))))) ?_
        refine ⟨a.length - (i + 1), by omega, i + 1, w ++ [a.getD i 0 / 2 ^ s + (a.getD (i + 1) 0 % 2 ^ s) * 2 ^ (64 - s)], ?_⟩
        rw [eapp]
        (repeat' apply And.intro) <;> first | rfl | omega | assumption | (simp [hw]; done) | exact lim_snoc hlw o2 | exact key
      · have hy : a.getD (i + 1) 0 = 0 := getD_ge (by omega)
        rw [hy, Nat.zero_mod, Nat.zero_mul, Nat.add_zero] at key
        refine xRF (jn h0 (jn h1 (jn h11 (jn h12 (jn h13 (jn h5 (jn g (jn g2 (jn e2 (jn e3 (jn e4 (jn e5 (jn e7 (jn hlen1 hset1)))))))))))))) ?_
        refine ⟨a.length - (i + 1), by omega, i + 1, w ++ [a.getD i 0 / 2 ^ s], ?_⟩
        rw [eapp, hy, Nat.zero_mod]
        (repeat' apply And.intro) <;> first | rfl | omega | assumption | (simp [hw]; done) | exact lim_snoc hlw e6 | exact key
    · have hi' : i = a.length := by omega
      subst hi'
      refine xRF (jn h0 (jn h1 (jn h11 (jn h12 (jn h13 (jn h5 g)))))) ?_
      rw [List.take_length, getD_ge (Nat.le_refl _), Nat.zero_mod, Nat.mul_zero, Nat.add_zero] at hinv
      refine ⟨w, ?_⟩
      have e0 : w ++ List.replicate (a.length - a.length) 0 = w := by simp
      rw [e0]
      have hv : val 18446744073709551616 w = val 18446744073709551616 a / 2 ^ s := (div_mod_of hinv (Nat.mod_lt _ (Nat.two_pow_pos s))).1.symm
      (repeat' apply And.intro) <;> first | rfl | omega | assumption | exact hv
  rintro ⟨ρ3, σ, c5⟩ ⟨w, hw, hlw, hvw, h5, hσ, hc5⟩
  dsimp only at h5 hσ hc5
  subst hσ
  refine v_freeze 5 (t := c) (off := 0) (n := a.length) (cap := some a.length) (l := w) (ySF h5) yS (by omega) (by omega) ?_
  rw [List.drop_zero, show w.take a.length = w from List.take_of_length_le (by omega)]
  refine xR ?_
  refine s_call (norm_spec (.id c) w c5 hlw (by omega)) yM ?_
  rintro v c6 hc6 ⟨t6, rfl, ht6⟩
  rw [hvw]
  refine xR ?_
  exact ⟨t6, rfl, ht6.mono (by omega) (Nat.le_refl _)⟩
end Go.Proofs.Ythjnmfieicniaaa
namespace Go.VM
section
variable {B m T lowU W lowV U V q : Nat}
theorem est_top (hU : U = lowU + B ^ m * T) (hlU : lowU < B ^ m) (hV : V = lowV + B ^ m * W) (hW : 0 < W) : U / V ≤ T / W := by
  rw [Nat.le_div_iff_mul_le hW]
  have h1 : U / V * V ≤ U := Nat.div_mul_le_self U V
  have h2 : B ^ m * (U / V * W) ≤ U / V * V := by rw [hV, Nat.mul_add, Nat.mul_left_comm]; omega
  have h3 : B ^ m * (U / V * W) < B ^ m * (T + 1) := by rw [Nat.mul_add, Nat.mul_one]; omega
  exact Nat.le_of_lt_succ (Nat.lt_of_mul_lt_mul_left h3)
theorem est_low (hU : U = lowU + B ^ m * T) (hV : V = lowV + B ^ m * W) (hlV : lowV < B ^ m) (hq : q * W ≤ T) (hqB : q ≤ B) (hBW : B ≤ W) (hV0 : 0 < V) : q ≤ U / V + 1 := by
  have h1 : q * lowV ≤ B ^ m * W := by
    have : q * lowV ≤ W * B ^ m := Nat.mul_le_mul (by omega) (Nat.le_of_lt hlV)
    rw [Nat.mul_comm] at this ⊢
    rw [Nat.mul_comm (B ^ m)]
    exact this
  have h2 : q * V = q * lowV + B ^ m * (q * W) := by rw [hV, Nat.mul_add, Nat.mul_left_comm]
  have h3 : B ^ m * (q * W) ≤ B ^ m * T := Nat.mul_le_mul_left _ hq
  have h4 : q * V ≤ U + V := by rw [h2]; omega
  rcases Nat.eq_zero_or_pos q with h | h
  · rw [h]; exact Nat.zero_le _
  · have h5 : (q - 1) * V ≤ U := by rw [Nat.sub_mul, Nat.one_mul]; omega
    have h6 := (Nat.le_div_iff_mul_le hV0).2 h5
    omega
end
theorem val_two {b m : Nat} {l : List Nat} (h : l.length = m + 2) : val b l = val b (l.take m) + b ^ m * (l.getD m 0 + b * l.getD (m + 1) 0) := by
  rw [val_take_drop b m l (by omega), drop_cons (i := m) (by omega), val, drop_cons (i := m + 1) (by omega), val, List.drop_of_length_le (by omega)]
  simp [val]
theorem val_three {b m : Nat} {l : List Nat} (h : l.length = m + 3) : val b l = val b (l.take m) + b ^ m * (l.getD m 0 + b * (l.getD (m + 1) 0 + b * l.getD (m + 2) 0)) := by
  rw [val_take_drop b m l (by omega), drop_cons (i := m) (by omega), val, drop_cons (i := m + 1) (by omega), val, drop_cons (i := m + 2) (by omega), val, List.drop_of_length_le (by omega)]
  simp [val]
theorem take_lt {b m : Nat} {l : List Nat} (h : Lim b l) (hm : m ≤ l.length) : val b (l.take m) < b ^ m := by
  have := val_lt (h.take (k := m))
  rwa [List.length_take, Nat.min_eq_left hm] at this
theorem top_le {b n : Nat} {u v : List Nat} (hb : 0 < b) (hu : u.length = n + 1) (hv : v.length = n) (hn : 0 < n) (hlv : Lim b v) (h : val b u < val b v * b) : u.getD n 0 ≤ v.getD (n - 1) 0 := by
  have h1 : val b u = val b (u.take n) + b ^ n * u.getD n 0 := by rw [← val_take' b u n, List.take_of_length_le (by omega)]
  have h2 : val b v = val b (v.take (n - 1)) + b ^ (n - 1) * v.getD (n - 1) 0 := by
    have := val_take' b v (n - 1)
    rw [show n - 1 + 1 = n by omega, List.take_of_length_le (by omega)] at this
    exact this
  have h3 := take_lt (m := n - 1) hlv (by omega)
  have h4 : val b v < b ^ (n - 1) * (v.getD (n - 1) 0 + 1) := by rw [Nat.mul_add]; omega
  have h5 : val b v * b ≤ b ^ n * (v.getD (n - 1) 0 + 1) := by
    have e : b ^ n = b ^ (n - 1) * b := by rw [← Nat.pow_succ, show (n - 1).succ = n by omega]
    rw [e, Nat.mul_right_comm]
    exact Nat.mul_le_mul_right b (Nat.le_of_lt h4)
  have h6 : b ^ n * u.getD n 0 < b ^ n * (v.getD (n - 1) 0 + 1) := by omega
  have := Nat.lt_of_mul_lt_mul_left h6
  omega
theorem msub_step {b i q x y c c' bo bo' s d : Nat} {w : List Nat} {A P : Nat} (hw : w.length = i) (h : val b w + P * q = A + b ^ i * (c + bo)) (hs : x * q + c = s + b * c') (hd : d + s + bo = y + b * bo') :
    val b (w ++ [d]) + (P + b ^ i * x) * q = (A + b ^ i * y) + b ^ (i + 1) * (c' + bo') := by
  rw [val_append, hw, val, val, Nat.mul_zero, Nat.add_zero, Nat.add_mul, Nat.pow_succ]
  have e1 : b ^ i * x * q + b ^ i * c = b ^ i * s + b ^ i * b * c' := by rw [Nat.mul_assoc, Nat.mul_assoc, ← Nat.mul_add, ← Nat.mul_add, hs]
  have e2 : b ^ i * d + b ^ i * s + b ^ i * bo = b ^ i * y + b ^ i * b * bo' := by rw [Nat.mul_assoc, ← Nat.mul_add, ← Nat.mul_add, ← Nat.mul_add, hd]
  rw [Nat.mul_add] at h
  rw [Nat.mul_add]
  omega
theorem addb_step {b i x y c c' d : Nat} {w : List Nat} {A P : Nat} (hw : w.length = i) (h : val b w + b ^ i * c = A + P) (hd : d + b * c' = y + x + c) :
    val b (w ++ [d]) + b ^ (i + 1) * c' = (A + b ^ i * y) + (P + b ^ i * x) := by
  rw [val_append, hw, val, val, Nat.mul_zero, Nat.add_zero, Nat.pow_succ]
  have e : b ^ i * d + b ^ i * b * c' = b ^ i * y + b ^ i * x + b ^ i * c := by rw [Nat.mul_assoc, ← Nat.mul_add, hd, Nat.mul_add, Nat.mul_add]
  omega
theorem getD_mid (A u C : List Nat) (i : Nat) (h : i < u.length) : ((A ++ u) ++ C).getD (A.length + i) 0 = u.getD i 0 := by
  rw [getD_append_left (by simp; omega), List.getD_eq_getElem?_getD, List.getD_eq_getElem?_getD, List.getElem?_append_right (by omega)]
  simp
theorem set_mid (A u C : List Nat) (i x : Nat) (h : i < u.length) : ((A ++ u) ++ C).set (A.length + i) x = (A ++ u.set i x) ++ C := by
  rw [List.set_append_left _ _ (by simp; omega), List.set_append_right _ _ (by omega)]
  simp
theorem getD_snoc_drop {w u : List Nat} {i : Nat} (hw : w.length = i) (hi : i < u.length) : (w ++ u.drop i).getD i 0 = u.getD i 0 := by
  rw [drop_cons hi, ← hw]
  exact getD_at _ _ _
theorem set_snoc_drop {w u : List Nat} {i : Nat} (hw : w.length = i) (hi : i < u.length) (x : Nat) : (w ++ u.drop i).set i x = (w ++ [x]) ++ u.drop (i + 1) := by
  rw [drop_cons hi]
  conv => lhs; rw [← hw]
  rw [set_at, hw]; simp
theorem knuth_end {b n q U V W bo : Nat} (hV : 0 < V) (h : W + V * q = U + b ^ (n + 1) * bo) (hW : W < b ^ (n + 1)) (hU : U < b ^ (n + 1)) (h1 : U / V ≤ q) (h2 : q ≤ U / V + 1) (hbo : bo ≤ 1) :
    (bo = 0 → q = U / V ∧ W = U % V) ∧ (bo ≠ 0 → q = U / V + 1 ∧ W + V = U % V + b ^ (n + 1)) := by
  have e := Nat.div_add_mod U V
  have hm := Nat.mod_lt U hV
  constructor
  · rintro rfl
    rw [Nat.mul_zero, Nat.add_zero] at h
    rcases Nat.lt_or_ge (U / V) q with g | g
    · have : V * (U / V + 1) ≤ V * q := Nat.mul_le_mul_left _ g
      rw [Nat.mul_add, Nat.mul_one] at this
      omega
    · have hq : q = U / V := by omega
      rw [hq] at h
      exact ⟨hq, by omega⟩
  · intro hne
    have : bo = 1 := by omega
    subst this
    rw [Nat.mul_one] at h
    rcases Nat.lt_or_ge (U / V) q with g | g
    · have hq : q = U / V + 1 := by omega
      rw [hq, Nat.mul_add, Nat.mul_one] at h
      exact ⟨hq, by omega⟩
    · have hq : q = U / V := by omega
      rw [hq] at h
      omega
end Go.VM
namespace Go.VM
theorem knuth_ok {B q vh vl r z n T W : Nat} (hT : T = z + B * n) (hW : W = vl + B * vh) (he : q * vh + r = n) (h : q * vl ≤ r * B + z) : q * W ≤ T := by
  subst hT hW he
  rw [Nat.mul_add, Nat.mul_add, Nat.mul_comm B r, Nat.mul_left_comm q B vh]
  omega
theorem knuth_no {B q vh vl r z n T W : Nat} (hT : T = z + B * n) (hW : W = vl + B * vh) (he : q * vh + r = n) (h : r * B + z < q * vl) : T < q * W := by
  subst hT hW he
  rw [Nat.mul_add, Nat.mul_add, Nat.mul_comm B r, Nat.mul_left_comm q B vh]
  omega
theorem knuth_big {B q vh vl r z n T W : Nat} (hT : T = z + B * n) (hW : W = vl + B * vh) (he : q * vh + r = n) (hq : q ≤ B) (hl : vl ≤ B) (hr : B ≤ r) : q * W ≤ T := by
  refine knuth_ok hT hW he ?_
  have h1 : q * vl ≤ B * B := Nat.mul_le_mul hq hl
  have h2 : B * B ≤ r * B := Nat.mul_le_mul_right B hr
  omega
theorem pair_le {B p r z : Nat} (hB : 0 < B) (hz : z < B) : p ≤ r * B + z ↔ p / B < r ∨ (p / B = r ∧ p % B ≤ z) := by
  have e := Nat.div_add_mod p B
  have hm := Nat.mod_lt p hB
  rw [Nat.mul_comm] at e
  constructor
  · intro h
    rcases Nat.lt_trichotomy (p / B) r with g | g | g
    · exact .inl g
    · subst g; exact .inr ⟨rfl, by omega⟩
    · have : (r + 1) * B ≤ p / B * B := Nat.mul_le_mul_right B g
      rw [Nat.add_mul, Nat.one_mul] at this
      omega
  · rintro (g | ⟨g, h⟩)
    · have : (p / B + 1) * B ≤ r * B := Nat.mul_le_mul_right B g
      rw [Nat.add_mul, Nat.one_mul] at this
      omega
    · subst g; omega
end Go.VM
namespace Go.VM
theorem top_zero {b n : Nat} {u : List Nat} (hb : 0 < b) (hn : u.length = n + 1) (h : val b u < b ^ n) : u = u.take n ++ [0] := by
  have e : u = u.take n ++ [u.getD n 0] := by
    rw [← take_snoc (by omega), List.take_of_length_le (by omega)]
  have h1 : val b u = val b (u.take n) + b ^ n * u.getD n 0 := by rw [← val_take' b u n, List.take_of_length_le (by omega)]
  have h2 : u.getD n 0 = 0 := by
    rcases Nat.eq_zero_or_pos (u.getD n 0) with h | g
    · exact h
    · have : b ^ n * 1 ≤ b ^ n * u.getD n 0 := Nat.mul_le_mul_left _ g
      omega
  rw [h2] at e
  exact e
theorem digs_top {b y m : Nat} (hb : 2 ≤ b) (h : (digs b y).length = m + 1) : (digs b y).getD m 0 ≠ 0 ∧ y = val b ((digs b y).take m) + b ^ m * (digs b y).getD m 0 := by
  have hv := val_digs hb y
  have h1 : val b (digs b y) = val b ((digs b y).take m) + b ^ m * (digs b y).getD m 0 := by rw [← val_take' b _ m, List.take_of_length_le (by omega)]
  refine ⟨fun e => ?_, by omega⟩
  have hlow := take_lt (m := m) (lim_digs hb y) (by omega)
  rw [e, Nat.mul_zero, Nat.add_zero] at h1
  have := digs_len hb (n := y) (k := m) (by omega)
  omega
theorem norm_val {y m s : Nat} (h : (digs 18446744073709551616 y).length = m + 1) (hs : s = 64 - bl ((digs 18446744073709551616 y).getD m 0)) :
    s < 64 ∧ y * 2 ^ s < 18446744073709551616 ^ (m + 1) ∧ 18446744073709551616 ^ m * 9223372036854775808 ≤ y * 2 ^ s := by
  obtain ⟨h0, hy⟩ := digs_top (b := 18446744073709551616) (by decide) h
  have htl := (lim_digs (b := 18446744073709551616) (by decide) y).getD (i := m) (by decide)
  have hlow := take_lt (m := m) (lim_digs (b := 18446744073709551616) (by decide) y) (by omega)
  generalize (digs 18446744073709551616 y).getD m 0 = tp at *
  obtain ⟨n1, n2⟩ := norm_shift (y := tp) (by omega) htl
  have hbp := bl_pos (n := tp) (by omega)
  rw [← hs] at n1 n2
  refine ⟨by omega, ?_, ?_⟩
  · have h1 : y < 18446744073709551616 ^ m * (tp + 1) := by rw [Nat.mul_add]; omega
    have h3 : (tp + 1) * 2 ^ s ≤ 18446744073709551616 := by
      have hbl : tp + 1 ≤ 2 ^ bl tp := lt_bl tp
      have h4 : (tp + 1) * 2 ^ s ≤ 2 ^ bl tp * 2 ^ s := Nat.mul_le_mul_right _ hbl
      rw [← Nat.pow_add, hs, show bl tp + (64 - bl tp) = 64 by have := bl_le (n := tp) (k := 64) htl; omega] at h4
      rw [hs]; exact h4
    have h5 : y * 2 ^ s < 18446744073709551616 ^ m * (tp + 1) * 2 ^ s := Nat.mul_lt_mul_of_pos_right h1 (Nat.two_pow_pos s)
    rw [Nat.mul_assoc] at h5
    rw [Nat.pow_succ]
    exact Nat.lt_of_lt_of_le h5 (Nat.mul_le_mul_left _ h3)
  · have h1 : 18446744073709551616 ^ m * tp ≤ y := by omega
    have h2 : 18446744073709551616 ^ m * tp * 2 ^ s ≤ y * 2 ^ s := Nat.mul_le_mul_right _ h1
    rw [Nat.mul_assoc] at h2
    exact Nat.le_trans (Nat.mul_le_mul_left _ n2) h2
theorem top_ge {b n k : Nat} {v : List Nat} (hb : 0 < b) (hv : Lim b v) (hn : v.length = n + 1) (h : b ^ n * k ≤ val b v) : k ≤ v.getD n 0 := by
  have h1 : val b v = val b (v.take n) + b ^ n * v.getD n 0 := by rw [← val_take' b v n, List.take_of_length_le (by omega)]
  have h2 := take_lt (m := n) hv (by omega)
  have h3 : b ^ n * k < b ^ n * (v.getD n 0 + 1) := by rw [Nat.mul_add]; omega
  have := Nat.lt_of_mul_lt_mul_left h3
  omega
theorem shift_div {x y s : Nat} : x * 2 ^ s / (y * 2 ^ s) = x / y ∧ x * 2 ^ s % (y * 2 ^ s) = x % y * 2 ^ s := ⟨Nat.mul_div_mul_right _ _ (Nat.two_pow_pos s), Nat.mul_mod_mul_right _ _ _⟩
theorem first_rest {x y s N n : Nat} {lu : List Nat} (hlu : Lim 18446744073709551616 lu) (hl : lu.length = N + 1) (hv : val 18446744073709551616 lu = x * 2 ^ s) (hx : x < 18446744073709551616 ^ N) (hn : 0 < n) (hnN : n ≤ N) (hy : 18446744073709551616 ^ (n - 1) ≤ y) :
    val 18446744073709551616 (lu.drop (N - n + 1)) < y * 2 ^ s := by
  have h1 := val_take_drop 18446744073709551616 (N - n + 1) lu (by omega)
  have h2 : 18446744073709551616 ^ (N - n + 1) * val 18446744073709551616 (lu.drop (N - n + 1)) < 18446744073709551616 ^ (N - n + 1) * (18446744073709551616 ^ (n - 1) * 2 ^ s) := by
    rw [← Nat.mul_assoc, ← Nat.pow_add, show N - n + 1 + (n - 1) = N by omega]
    have : x * 2 ^ s < 18446744073709551616 ^ N * 2 ^ s := Nat.mul_lt_mul_of_pos_right hx (Nat.two_pow_pos s)
    omega
  have h3 := Nat.lt_of_mul_lt_mul_left h2
  exact Nat.lt_of_lt_of_le h3 (Nat.mul_le_mul_right _ hy)
end Go.VM
namespace Go.VM
theorem back_end {vw P cc R : Nat} (h : vw + P * cc = R + P) (hlt : vw < P) (hc : cc = 0 ∨ cc = 1) : vw = R := by
  rcases hc with rfl | rfl
  · rw [Nat.mul_zero, Nat.add_zero] at h; omega
  · rw [Nat.mul_one] at h; omega
end Go.VM
namespace Go.VM
theorem add_last {b i y c V : Nat} {w2 Wl : List Nat} (hw : w2.length = i) (h : val b w2 + b ^ i * c = val b (Wl.take i) + V) (hl : val b Wl = val b (Wl.take i) + b ^ i * y) :
    val b (w2 ++ [(y + c) % b]) + b ^ (i + 1) * ((y + c) / b) = val b Wl + V := by
  have hd := Nat.mod_add_div (y + c) b
  have key := addb_step (b := b) (i := i) (x := 0) (y := y) (c := c) (c' := (y + c) / b) (d := (y + c) % b) (A := val b (Wl.take i)) (P := V) hw h (by omega)
  rw [Nat.mul_zero, Nat.add_zero] at key
  rw [hl]
  exact key
end Go.VM
namespace Go.Proofs.Ythjnmfieicniaaa
open Go.VM

def GPost (t : Nat) (A u D v : List Nat) (m : Nat) : V → (Nat → Option Blk) → Nat → Prop := fun r σ' _ => r = nv (val 18446744073709551616 u / val 18446744073709551616 v) ∧ ∃ u', σ' t = nblk ((A ++ u') ++ D) ∧ u'.length = m + 3 ∧ Lim 18446744073709551616 u' ∧ val 18446744073709551616 u' = val 18446744073709551616 u % val 18446744073709551616 v
def VCrest : VC → VC | .seq _ b => b | v => v
def R1g : VC := VCrest (VCrest (VCrest (VCrest (VCrest (VCrest C.div_guess)))))
def R2g : VC := VCrest (VCrest R1g)
theorem guess_end (t : Nat) (tv : Tok) (A u D v : List Nat) (m c : Nat) (cap : Option Nat) (hu : Lim 18446744073709551616 u) (hv : Lim 18446744073709551616 v) (hun : u.length = m + 3) (hvn : v.length = m + 2) (hV0 : 0 < val 18446744073709551616 v) (hUlt : val 18446744073709551616 u < 18446744073709551616 ^ (m + 3))
    (hlen : A.length + D.length + m ≤ 4398046511104) (q : Nat) (hq : q < 18446744073709551616) (hQ : val 18446744073709551616 u / val 18446744073709551616 v ≤ q) (hq1 : q ≤ val 18446744073709551616 u / val 18446744073709551616 v + 1)
    (ρ3 : Nat → V) (c3 : Nat) (w : List Nat) (carry bo : Nat) (hw : w.length = m + 2) (hlw : Lim 18446744073709551616 w) (hca : carry < 18446744073709551616) (hbo : bo ≤ 1) (hinv : val 18446744073709551616 w + val 18446744073709551616 v * q = val 18446744073709551616 (u.take (m + 2)) + 18446744073709551616 ^ (m + 2) * (carry + bo))
    (h0 : ρ3 0 = .buf t A.length (m + 3) cap 1) (h1 : ρ3 1 = nats tv v) (h5 : ρ3 5 = iv ((m + 2 : Nat) : Int)) (h6 : ρ3 6 = nv q) (h13 : ρ3 13 = nv carry) (h14 : ρ3 14 = nv bo) (hc3 : c ≤ c3) :
    VWP Try.prog c R2g (retL R.div_guess fun r σ' c' => c ≤ c' ∧ GPost t A u D v m r (lentσ (supd noBlk t (nblk ((A ++ u) ++ D))) σ') c') ⟨ρ3, supd noBlk t (nblk ((A ++ (w ++ u.drop (m + 2))) ++ D)), c3⟩ := by
  unfold R2g R1g C.div_guess R.div_guess
  simp only [VCrest, GPost]
  obtain ⟨x, hxe⟩ : ∃ x, u.getD (m + 2) 0 = x := ⟨_, rfl⟩
  have hx := hu.getD (i := m + 2) (by decide)
  rw [hxe] at hx
  obtain ⟨Qq, hQq⟩ : ∃ Qq, Qq = val 18446744073709551616 u / val 18446744073709551616 v := ⟨_, rfl⟩
  have hux := val_take' 18446744073709551616 u (m + 2)
  rw [List.take_of_length_le (show u.length ≤ m + 2 + 1 by omega), hxe] at hux
  have hget : ((A ++ (w ++ u.drop (m + 2))) ++ D).getD (A.length + (m + 2)) 0 = x := by rw [getD_mid _ _ _ _ (by simp; omega), getD_snoc_drop hw (by omega), hxe]
  have hset : ∀ d, ((A ++ (w ++ u.drop (m + 2))) ++ D).set (A.length + (m + 2)) d = (A ++ (w ++ [d])) ++ D := fun d => by
    rw [set_mid _ _ _ _ _ (by simp; omega), set_snoc_drop hw (by omega), List.drop_of_length_le (by omega), List.append_nil]
  have hlen2 : ((A ++ (w ++ u.drop (m + 2))) ++ D).length = A.length + (m + 3) + D.length := by simp; omega
  have hb1 : (if x < carry + bo then 1 else 0) ≤ 1 := by split <;> omega
  have key := msub_step (b := 18446744073709551616) (q := q) (x := 0) (c' := 0) (s := carry) (bo' := if x < carry + bo then 1 else 0) (d := (x + 18446744073709551616 - carry - bo) % 18446744073709551616) (y := x) hw hinv (by omega) (by split <;> omega)
  rw [Nat.mul_zero, Nat.add_zero, ← hux, Nat.zero_add] at key
  have hdl := Nat.mod_lt (x + 18446744073709551616 - carry - bo) (show 0 < 18446744073709551616 by decide)
  obtain ⟨d, hdd⟩ : ∃ d, d = (x + 18446744073709551616 - carry - bo) % 18446744073709551616 := ⟨_, rfl⟩
  rw [← hdd] at key hdl
  obtain ⟨bo2, hbo2⟩ : ∃ b2, b2 = if x < carry + bo then 1 else 0 := ⟨_, rfl⟩
  rw [← hbo2] at key hb1
  have hWl : Lim 18446744073709551616 (w ++ [d]) := lim_snoc hlw hdl
  have hWn : (w ++ [d]).length = m + 3 := by simp; omega
  have hWlt := val_lt hWl
  rw [hWn] at hWlt
  have e23 : m + 3 = m + 2 + 1 := by omega
  have hUlt2 := hUlt
  rw [e23] at hUlt2 hWlt
  obtain ⟨n0, n1⟩ := knuth_end (b := 18446744073709551616) (n := m + 2) hV0 key hWlt hUlt2 (by omega) hq1 hb1
  by_cases gb : bo2 = 0
  · obtain ⟨r1, r2⟩ := n0 gb
    rw [gb] at hbo2
    (repeat (first | refine v_reg ?_ | refine v_last ?_ | refine vwp_seq ?_ | refine vwp_block ?_ | refine vwp_skip ?_ | refine vwp_exit ?_ | refine vwp_ret ?_ | refine v_cond ?_ | simp only [vm, ite_true, ite_false, eq_self, reduceIte, Nat.reduceEqDiff, Option.map, h0, h1, h5, h6, h13, h14, hget, hset, hlen2, ← hbo2, ← hdd] | refine And.intro (by omega) ?_))
    exact ⟨by rw [r1], w ++ [d], rfl, hWn, hWl, r2⟩
  · obtain ⟨r1, r2⟩ := n1 gb
    have gb1 : bo2 = 1 := by omega
    rw [gb1] at hbo2
    have hq0 : 0 < q := by omega
    have hd1 := dec_mod64 hq0 hq
    (repeat (first | refine v_reg ?_ | refine v_last ?_ | refine vwp_seq ?_ | refine vwp_block ?_ | refine vwp_skip ?_ | refine vwp_exit ?_ | refine vwp_ret ?_ | refine v_cond ?_ | simp only [vm, ite_true, ite_false, eq_self, reduceIte, Nat.reduceEqDiff, Option.map, h0, h1, h5, h6, h13, h14, hget, hset, hlen2, ← hbo2, ← hdd, hd1, hvn] | refine And.intro (by omega) ?_))
    generalize w ++ [d] = Wl at *
    have hWtop := hWl.getD (i := m + 2) (by decide)
    refine v_loop (fun S => ∃ w2 back, w2.length = m + 2 ∧ Lim 18446744073709551616 w2 ∧ back ≤ 1 ∧ val 18446744073709551616 w2 + 18446744073709551616 ^ (m + 2) * back = val 18446744073709551616 (Wl.take (m + 2)) + val 18446744073709551616 v ∧ S.ρ 0 = .buf t A.length (m + 3) cap 1 ∧ S.ρ 5 = iv ((m + 2 : Nat) : Int) ∧ S.ρ 6 = nv (q - 1) ∧ S.ρ 21 = nv back ∧ S.σ = supd noBlk t (nblk ((A ++ (w2 ++ Wl.drop (m + 2))) ++ D)) ∧ c ≤ S.c) ?_ ?_
    · refine vwp_loop (fun k S => ∃ i w2 back, k = m + 2 - i ∧ i ≤ m + 2 ∧ w2.length = i ∧ Lim 18446744073709551616 w2 ∧ back ≤ 1 ∧ val 18446744073709551616 w2 + 18446744073709551616 ^ i * back = val 18446744073709551616 (Wl.take i) + val 18446744073709551616 (v.take i) ∧ S.ρ 0 = .buf t A.length (m + 3) cap 1 ∧ S.ρ 5 = iv ((m + 2 : Nat) : Int) ∧ S.ρ 6 = nv (q - 1) ∧ S.ρ 21 = nv back ∧ S.ρ 166 = nats tv v ∧ S.ρ 167 = iv ((m + 2 : Nat) : Int) ∧ S.ρ 168 = iv i ∧ S.σ = supd noBlk t (nblk ((A ++ (w2 ++ Wl.drop i)) ++ D)) ∧ c ≤ S.c) (m + 2) ?_ ?_
      · refine ⟨0, [], 0, by omega, by omega, ?_⟩
        refine xSF (jn h0 (jn h1 (jn h5 h6))) ?_
        (repeat' apply And.intro) <;> first | rfl | omega | assumption | exact Lim.nil | (simp [val]; done) | (rw [List.nil_append, List.drop_zero])
      rintro k ⟨ρ4, σ, c4⟩ ⟨i, w2, back, hk, hi, hw2, hlw2, hba, hinv2, h0, h5, h6, h21, h166, h167, h168, hσ, hc4⟩
      dsimp only at h0 h5 h6 h21 h166 h167 h168 hσ hc4
      subst hσ
      by_cases g : (i : Int) < ((m + 2 : Nat) : Int)
      · have hi' : i < m + 2 := by omega
        have hxi := hv.getD (i := i) (by decide)
        have hyi := hWl.getD (i := i) (by decide)
        have hvx := val_take' 18446744073709551616 v i
        have hwx := val_take' 18446744073709551616 Wl i
        have hget3 : ((A ++ (w2 ++ Wl.drop i)) ++ D).getD (A.length + i) 0 = Wl.getD i 0 := by rw [getD_mid _ _ _ _ (by simp; omega), getD_snoc_drop hw2 (by omega)]
        have hset3 : ∀ d, ((A ++ (w2 ++ Wl.drop i)) ++ D).set (A.length + i) d = (A ++ ((w2 ++ [d]) ++ Wl.drop (i + 1))) ++ D := fun d => by rw [set_mid _ _ _ _ _ (by simp; omega), set_snoc_drop hw2 (by omega)]
        have hlen3 : ((A ++ (w2 ++ Wl.drop i)) ++ D).length = A.length + (m + 3) + D.length := by simp; omega
        refine xRF (jn h0 (jn h5 (jn h6 (jn h21 (jn h166 (jn h167 (jn h168 (jn g (jn hvn (jn hget3 (jn hset3 hlen3))))))))))) ?_
        have hb3 : (Wl.getD i 0 + v.getD i 0 + back) / 18446744073709551616 ≤ 1 := by omega
        have key3 := addb_step (b := 18446744073709551616) (c' := (Wl.getD i 0 + v.getD i 0 + back) / 18446744073709551616) (d := (Wl.getD i 0 + v.getD i 0 + back) % 18446744073709551616) (x := v.getD i 0) (y := Wl.getD i 0) hw2 hinv2 (by omega)
        rw [← hvx, ← hwx] at key3
        refine ⟨m + 2 - (i + 1), by omega, i + 1, w2 ++ [(Wl.getD i 0 + v.getD i 0 + back) % 18446744073709551616], (Wl.getD i 0 + v.getD i 0 + back) / 18446744073709551616, ?_⟩
        (repeat' apply And.intro) <;> first | rfl | exact key3 | exact hb3 | exact lim_snoc hlw2 (Nat.mod_lt _ (by decide)) | (simp [hw2]; done) | omega | assumption
      · have hi' : i = m + 2 := by omega
        subst hi'
        rw [List.take_of_length_le (l := v) (by omega)] at hinv2
        refine xRF (jn h0 (jn h5 (jn h6 (jn h21 (jn h166 (jn h167 (jn h168 g))))))) ?_
        refine ⟨w2, back, ?_⟩
        exact yA
    rintro ⟨ρ4, σ, c4⟩ ⟨w2, back, hw2, hlw2, hba, hinv2, h0, h5, h6, h21, hσ, hc4⟩
    dsimp only at h0 h5 h6 h21 hσ hc4
    subst hσ
    have hwx := val_take' 18446744073709551616 Wl (m + 2)
    rw [List.take_of_length_le (show Wl.length ≤ m + 2 + 1 by omega)] at hwx
    have hget3 : ((A ++ (w2 ++ Wl.drop (m + 2))) ++ D).getD (A.length + (m + 2)) 0 = Wl.getD (m + 2) 0 := by rw [getD_mid _ _ _ _ (by simp; omega), getD_snoc_drop hw2 (by omega)]
    have hset3 : ∀ d, ((A ++ (w2 ++ Wl.drop (m + 2))) ++ D).set (A.length + (m + 2)) d = (A ++ (w2 ++ [d])) ++ D := fun d => by
      rw [set_mid _ _ _ _ _ (by simp; omega), set_snoc_drop hw2 (by omega), List.drop_of_length_le (by omega), List.append_nil]
    have hlen3 : ((A ++ (w2 ++ Wl.drop (m + 2))) ++ D).length = A.length + (m + 3) + D.length := by simp; omega
    have key3 := add_last hw2 hinv2 hwx
    refine xRF (jn h0 (jn h5 (jn h6 (jn h21 (jn hget3 (jn hset3 hlen3)))))) ?_
    have hl3 : Lim 18446744073709551616 (w2 ++ [(Wl.getD (m + 2) 0 + back) % 18446744073709551616]) := lim_snoc hlw2 (Nat.mod_lt _ (by decide))
    have hn3 : (w2 ++ [(Wl.getD (m + 2) 0 + back) % 18446744073709551616]).length = m + 3 := by simp; omega
    have hlt3 := val_lt hl3
    rw [hn3] at hlt3
    have hc3 : (Wl.getD (m + 2) 0 + back) / 18446744073709551616 = 0 ∨ (Wl.getD (m + 2) 0 + back) / 18446744073709551616 = 1 := by omega
    have hfin : val 18446744073709551616 (w2 ++ [(Wl.getD (m + 2) 0 + back) % 18446744073709551616]) = val 18446744073709551616 u % val 18446744073709551616 v := by
      rw [e23] at hlt3
      exact back_end (key3.trans r2) hlt3 hc3
    exact ⟨by rw [r1, Nat.add_sub_cancel], _, rfl, hn3, hl3, hfin⟩
theorem guess_sub (t : Nat) (tv : Tok) (A u D v : List Nat) (m c : Nat) (cap : Option Nat) (hu : Lim 18446744073709551616 u) (hv : Lim 18446744073709551616 v) (hun : u.length = m + 3) (hvn : v.length = m + 2) (hV0 : 0 < val 18446744073709551616 v) (hUlt : val 18446744073709551616 u < 18446744073709551616 ^ (m + 3))
    (hlen : A.length + D.length + m ≤ 4398046511104) (q : Nat) (hq : q < 18446744073709551616) (hQ : val 18446744073709551616 u / val 18446744073709551616 v ≤ q) (hq1 : q ≤ val 18446744073709551616 u / val 18446744073709551616 v + 1)
    (ρ2 : Nat → V) (c2 : Nat) (h0 : ρ2 0 = .buf t A.length (m + 3) cap 1) (h1 : ρ2 1 = nats tv v) (h5 : ρ2 5 = iv ((m + 2 : Nat) : Int)) (h6 : ρ2 6 = nv q) (hc2 : c ≤ c2) :
    VWP Try.prog c R1g (retL R.div_guess fun r σ' c' => c ≤ c' ∧ GPost t A u D v m r (lentσ (supd noBlk t (nblk ((A ++ u) ++ D))) σ') c') ⟨ρ2, supd noBlk t (nblk ((A ++ u) ++ D)), c2⟩ := by
  unfold R1g C.div_guess
  simp only [VCrest]
  refine xRF (jn h1 hvn) ?_
  refine v_loop (fun S => ∃ w carry bo, w.length = m + 2 ∧ Lim 18446744073709551616 w ∧ carry < 18446744073709551616 ∧ bo ≤ 1 ∧ val 18446744073709551616 w + val 18446744073709551616 v * q = val 18446744073709551616 (u.take (m + 2)) + 18446744073709551616 ^ (m + 2) * (carry + bo) ∧ S.ρ 0 = .buf t A.length (m + 3) cap 1 ∧ S.ρ 1 = nats tv v ∧ S.ρ 5 = iv ((m + 2 : Nat) : Int) ∧ S.ρ 6 = nv q ∧ S.ρ 13 = nv carry ∧ S.ρ 14 = nv bo ∧ S.σ = supd noBlk t (nblk ((A ++ (w ++ u.drop (m + 2))) ++ D)) ∧ c ≤ S.c) ?_ ?_
  · refine vwp_loop (fun k S => ∃ i w carry bo, k = m + 2 - i ∧ i ≤ m + 2 ∧ w.length = i ∧ Lim 18446744073709551616 w ∧ carry < 18446744073709551616 ∧ bo ≤ 1 ∧ val 18446744073709551616 w + val 18446744073709551616 (v.take i) * q = val 18446744073709551616 (u.take i) + 18446744073709551616 ^ i * (carry + bo) ∧ S.ρ 0 = .buf t A.length (m + 3) cap 1 ∧ S.ρ 1 = nats tv v ∧ S.ρ 5 = iv ((m + 2 : Nat) : Int) ∧ S.ρ 6 = nv q ∧ S.ρ 13 = nv carry ∧ S.ρ 14 = nv bo ∧ S.ρ 113 = nats tv v ∧ S.ρ 114 = iv ((m + 2 : Nat) : Int) ∧ S.ρ 115 = iv i ∧ S.σ = supd noBlk t (nblk ((A ++ (w ++ u.drop i)) ++ D)) ∧ c ≤ S.c) (m + 2) ?_ ?_
    · refine ⟨0, [], 0, 0, by omega, by omega, ?_⟩
      refine xSF (jn h0 (jn h1 (jn h5 h6))) ?_
      (repeat' apply And.intro) <;> first | rfl | omega | assumption | exact Lim.nil | (simp [val]; done) | (rw [List.nil_append, List.drop_zero])
    rintro k ⟨ρ3, σ, c3⟩ ⟨i, w, carry, bo, hk, hi, hw, hlw, hca, hbo, hinv, h0, h1, h5, h6, h13, h14, h113, h114, h115, hσ, hc3⟩
    dsimp only at h0 h1 h5 h6 h13 h14 h113 h114 h115 hσ hc3
    subst hσ
    by_cases g : (i : Int) < ((m + 2 : Nat) : Int)
    · have hi' : i < m + 2 := by omega
      have hxi := hv.getD (i := i) (by decide)
      have hyi := hu.getD (i := i) (by decide)
      have hvx := val_take' 18446744073709551616 v i
      have hux := val_take' 18446744073709551616 u i
      have hget : ((A ++ (w ++ u.drop i)) ++ D).getD (A.length + i) 0 = u.getD i 0 := by rw [getD_mid _ _ _ _ (by simp; omega), getD_snoc_drop hw (by omega)]
      have hset : ∀ d, ((A ++ (w ++ u.drop i)) ++ D).set (A.length + i) d = (A ++ ((w ++ [d]) ++ u.drop (i + 1))) ++ D := fun d => by rw [set_mid _ _ _ _ _ (by simp; omega), set_snoc_drop hw (by omega)]
      have hlen2 : ((A ++ (w ++ u.drop i)) ++ D).length = A.length + (m + 3) + D.length := by simp; omega
      obtain ⟨e1, e2⟩ := mul_step (v.getD i 0) q carry
      have e3 := mul_step_lt hxi hq hca
      have e4 := Nat.mod_eq_of_lt e3
      refine xRF (jn h0 (jn h1 (jn h5 (jn h6 (jn h13 (jn h14 (jn h113 (jn h114 (jn h115 (jn g hvn)))))))))) ?_
      refine s_call (mul64_spec (v.getD i 0) q c3 hxi hq) (yMF h6) ?_
      rintro v1 c4 hc4 rfl
      refine xRF (jn h0 (jn h1 (jn h5 (jn h6 (jn h13 (jn h14 (jn h113 (jn h114 (jn h115 (jn @Nat.add_zero (jn e1 (jn e2 (jn e4 (jn hget (jn hset hlen2))))))))))))))) ?_
      have hdm := Nat.div_add_mod (v.getD i 0 * q + carry) 18446744073709551616
      have hsm := Nat.mod_lt (v.getD i 0 * q + carry) (show 0 < 18446744073709551616 by decide)
      generalize (v.getD i 0 * q + carry) % 18446744073709551616 = s at *
      generalize (v.getD i 0 * q + carry) / 18446744073709551616 = cc at *
      generalize u.getD i 0 = yy at *
      have hb1 : (if yy < s + bo then 1 else 0) ≤ 1 := by split <;> omega
      have key := msub_step (b := 18446744073709551616) (bo' := if yy < s + bo then 1 else 0) (d := (yy + 18446744073709551616 - s - bo) % 18446744073709551616) (y := yy) hw hinv (by omega : v.getD i 0 * q + carry = s + 18446744073709551616 * cc) (by split <;> omega)
      rw [← hvx, ← hux] at key
      refine ⟨m + 2 - (i + 1), by omega, i + 1, w ++ [(yy + 18446744073709551616 - s - bo) % 18446744073709551616], cc, if yy < s + bo then 1 else 0, ?_⟩
      (repeat' apply And.intro) <;> first | rfl | omega | assumption | (simp [hw]; done) | exact lim_snoc hlw (Nat.mod_lt _ (by decide)) | exact key
    · have hi' : i = m + 2 := by omega
      subst hi'
      rw [List.take_of_length_le (l := v) (by omega)] at hinv
      refine xRF (jn h0 (jn h1 (jn h5 (jn h6 (jn h13 (jn h14 (jn h113 (jn h114 (jn h115 g))))))))) ?_
      refine ⟨w, carry, bo, ?_⟩
      exact yA
  rintro ⟨ρ3, σ, c3⟩ ⟨w, carry, bo, hw, hlw, hca, hbo, hinv, h0, h1, h5, h6, h13, h14, hσ, hc3⟩
  dsimp only at h0 h1 h5 h6 h13 h14 hσ hc3
  subst hσ
  exact guess_end t tv A u D v m c cap hu hv hun hvn hV0 hUlt hlen q hq hQ hq1 ρ3 c3 w carry bo hw hlw hca hbo hinv h0 h1 h5 h6 h13 h14 hc3
theorem guess_spec (t : Nat) (tv : Tok) (A u D v : List Nat) (m c : Nat) (cap : Option Nat) (hu : Lim 18446744073709551616 u) (hv : Lim 18446744073709551616 v) (hun : u.length = m + 3) (hvn : v.length = m + 2) (hnorm : 9223372036854775808 ≤ v.getD (m + 1) 0) (hlt : val 18446744073709551616 u < val 18446744073709551616 v * 18446744073709551616)
    (hlen : A.length + D.length + m ≤ 4398046511104) :
    VSpecL Try.prog F.div_guess c (supd noBlk t (nblk ((A ++ u) ++ D))) [.buf t A.length (m + 3) cap 1, nats tv v] (GPost t A u D v m) := by
  refine sL hm G.div_guess ?_
  unfold C.div_guess R.div_guess cD
  have hL : ∀ u' : List Nat, u'.length = m + 3 → ((A ++ u') ++ D).length = A.length + (m + 3) + D.length := fun u' h => by simp [h]; omega
  have g2 : ((A ++ u) ++ D).getD (A.length + (m + 2)) 0 = u.getD (m + 2) 0 := getD_mid _ _ _ _ (by omega)
  have g1 : ((A ++ u) ++ D).getD (A.length + (m + 1)) 0 = u.getD (m + 1) 0 := getD_mid _ _ _ _ (by omega)
  have g0 : ((A ++ u) ++ D).getD (A.length + m) 0 = u.getD m 0 := getD_mid _ _ _ _ (by omega)
  have eU := val_three (b := 18446744073709551616) hun
  have eV := val_two (b := 18446744073709551616) hvn
  have htop := top_le (b := 18446744073709551616) (by decide) (n := m + 2) hun hvn (by omega) hv hlt
  rw [show m + 2 - 1 = m + 1 by omega] at htop
  have hlU := take_lt (m := m) hu (by omega)
  have hlV := take_lt (m := m) hv (by omega)
  have hx := hu.getD (i := m + 2) (by decide)
  have hy := hu.getD (i := m + 1) (by decide)
  have hz := hu.getD (i := m) (by decide)
  have hvh := hv.getD (i := m + 1) (by decide)
  have hvl := hv.getD (i := m) (by decide)
  have hUlt := val_lt hu
  have hVlt := val_lt hv
  rw [hun] at hUlt
  have hLu := hL u hun
  have i1 : ((m + 2 : Nat) : Int) - 1 = ((m + 1 : Nat) : Int) := by omega
  have i2 : ((m + 2 : Nat) : Int) - 2 = ((m : Nat) : Int) := by omega
  generalize hxe : u.getD (m + 2) 0 = x at *
  generalize hye : u.getD (m + 1) 0 = y at *
  generalize hze : u.getD m 0 = z at *
  generalize hvhe : v.getD (m + 1) 0 = vh at *
  generalize hvle : v.getD m 0 = vl at *
  obtain ⟨T, hT⟩ : ∃ T, T = z + 18446744073709551616 * (y + 18446744073709551616 * x) := ⟨_, rfl⟩
  obtain ⟨W, hW⟩ : ∃ W, W = vl + 18446744073709551616 * vh := ⟨_, rfl⟩
  rw [← hT] at eU
  rw [← hW] at eV
  have hW0 : 18446744073709551616 ≤ W := by omega
  have hV0 : 0 < val 18446744073709551616 v := by
    have : 0 < 18446744073709551616 ^ m * W := Nat.mul_pos (Nat.pow_pos (by decide)) (by omega)
    omega
  have hQT := est_top eU hlU eV (by omega)
  have hQB : val 18446744073709551616 u / val 18446744073709551616 v < 18446744073709551616 := by rw [Nat.div_lt_iff_lt_mul hV0, Nat.mul_comm]; exact hlt
  obtain ⟨Qq, hQq⟩ : ∃ Qq, Qq = val 18446744073709551616 u / val 18446744073709551616 v := ⟨_, rfl⟩
  rw [← hQq] at hQT hQB
  refine xG ?_
  refine xGF hvn ?_
  refine xG ?_
  refine xG ?_
  refine v_cut (fun S => ∃ q r sure, S.ρ 0 = .buf t A.length (m + 3) cap 1 ∧ S.ρ 1 = nats tv v ∧ S.ρ 5 = iv ((m + 2 : Nat) : Int) ∧ S.ρ 6 = nv q ∧ S.ρ 7 = nv r ∧ S.ρ 8 = bv sure ∧ S.σ = supd noBlk t (nblk ((A ++ u) ++ D)) ∧ c ≤ S.c ∧ q < 18446744073709551616 ∧ r < 18446744073709551616 ∧ Qq ≤ q ∧ (sure = false → q * vh + r = y + 18446744073709551616 * x) ∧ (sure = true → q * W ≤ T)) ?_ ?_
  · by_cases gx : vh ≤ x
    · have hxv : x = vh := by omega
      have ee : (18446744073709551616 - 1) * vh + (y + vh) = y + 18446744073709551616 * x := by rw [hxv]; omega
      by_cases go : y + vh < 18446744073709551616
      · have eo : (y + vh) / 18446744073709551616 = 0 := Nat.div_eq_of_lt go
        have em : (y + vh) % 18446744073709551616 = y + vh := Nat.mod_eq_of_lt go
        refine xRF (jn hvn (jn i1 (jn g2 (jn g1 (jn hLu (jn hvhe (jn gx (jn eo (jn em @Nat.add_zero))))))))) ?_
        refine ⟨18446744073709551615, y + vh, false, ?_⟩
        (repeat' apply And.intro) <;> first | rfl | omega | assumption | exact fun _ => ee | (intro h; cases h)
      · have eo : (y + vh) / 18446744073709551616 = 1 := by omega
        have hb := knuth_big hT hW ee (by decide) (Nat.le_of_lt hvl) (by omega)
        refine xRF (jn hvn (jn i1 (jn g2 (jn g1 (jn hLu (jn hvhe (jn gx (jn eo @Nat.add_zero)))))))) ?_
        refine ⟨18446744073709551615, (y + vh) % 18446744073709551616, true, ?_⟩
        (repeat' apply And.intro) <;> first | rfl | omega | assumption | exact Nat.mod_lt _ (by decide) | (intro h; cases h; done) | exact fun _ => hb
    · have gx' : ¬ vh ≤ x := gx
      refine xRF (jn hvn (jn i1 (jn g2 (jn g1 (jn hLu (jn hvhe gx')))))) ?_
      have en : x * 18446744073709551616 + y = y + 18446744073709551616 * x := by omega
      refine s_call (div64_spec x y vh c hy hvh (by omega)) yM ?_
      rintro v1 c2 hc2 rfl
      rw [en]
      have hdm := Nat.div_add_mod (y + 18446744073709551616 * x) vh
      have hmod := Nat.mod_lt (y + 18446744073709551616 * x) (show 0 < vh by omega)
      have hqb : (y + 18446744073709551616 * x) / vh < 18446744073709551616 := by rw [← en]; exact dig_lt (by omega) hy
      have hup := kd_up (n := y + 18446744073709551616 * x) (b := 18446744073709551616) (u := z) (v := W) (v1 := vh) (v0 := vl) (by decide) hz (by omega) (by omega)
      have eT : (y + 18446744073709551616 * x) * 18446744073709551616 + z = T := by rw [hT, Nat.mul_comm, Nat.add_comm]
      rw [eT] at hup
      rw [Nat.mul_comm vh] at hdm
      generalize (y + 18446744073709551616 * x) / vh = q at *
      generalize (y + 18446744073709551616 * x) % vh = r at *
      refine xRF (jn hvn (jn i1 (jn g2 (jn g1 (jn hLu (jn hvhe gx')))))) ?_
      refine ⟨q, r, false, ?_⟩
      (repeat' apply And.intro) <;> first | rfl | omega | assumption | exact fun _ => hdm | (intro h; cases h)
  rintro ⟨ρ1, σ, c1⟩ ⟨q0, r0, sure0, h0, h1, h5, h6, h7, h8, hσ, hc1, hq0, hr0, hQ0, hs0, ht0⟩
  dsimp only at h0 h1 h5 h6 h7 h8 hσ hc1
  subst hσ
  (repeat (first | refine vwp_seq ?_ | refine vwp_block ?_))
  refine v_loop (fun S => ∃ q, S.ρ 0 = .buf t A.length (m + 3) cap 1 ∧ S.ρ 1 = nats tv v ∧ S.ρ 5 = iv ((m + 2 : Nat) : Int) ∧ S.ρ 6 = nv q ∧ S.σ = supd noBlk t (nblk ((A ++ u) ++ D)) ∧ c ≤ S.c ∧ q < 18446744073709551616 ∧ Qq ≤ q ∧ q * W ≤ T) ?_ ?_
  · refine vwp_loop (fun k S => ∃ q r sure, k = q ∧ S.ρ 0 = .buf t A.length (m + 3) cap 1 ∧ S.ρ 1 = nats tv v ∧ S.ρ 5 = iv ((m + 2 : Nat) : Int) ∧ S.ρ 6 = nv q ∧ S.ρ 7 = nv r ∧ S.ρ 8 = bv sure ∧ S.σ = supd noBlk t (nblk ((A ++ u) ++ D)) ∧ c ≤ S.c ∧ q < 18446744073709551616 ∧ r < 18446744073709551616 ∧ Qq ≤ q ∧ (sure = false → q * vh + r = y + 18446744073709551616 * x) ∧ (sure = true → q * W ≤ T)) q0 ?_ ?_
    · exact ⟨q0, r0, sure0, rfl, h0, h1, h5, h6, h7, h8, rfl, hc1, hq0, hr0, hQ0, hs0, ht0⟩
    rintro k ⟨ρ2, σ, c2⟩ ⟨q, r, sure, hk, h0, h1, h5, h6, h7, h8, hσ, hc2, hq, hr, hQ, hs, ht⟩
    dsimp only at h0 h1 h5 h6 h7 h8 hσ hc2
    subst hσ
    cases sure with
    | true =>
      refine xRF (jn h0 (jn h1 (jn h5 (jn h6 (jn h7 h8))))) ?_
      exact ⟨q, rfl, hc2, hq, hQ, ht rfl⟩
    | false =>
      have he := hs rfl
      refine xRF (jn h0 (jn h1 (jn h5 (jn h6 (jn h7 (jn h8 (jn i1 (jn i2 hvle)))))))) ?_
      refine s_call (mul64_spec q vl c2 hq hvl) yM ?_
      rintro v1 c3 hc3 rfl
      have hcmp := pair_le (B := 18446744073709551616) (p := q * vl) (r := r) (z := z) (by decide) hz
      have fin : q * vl ≤ r * 18446744073709551616 + z → q * W ≤ T := fun h => knuth_ok hT hW he h
      have hno : ¬ q * vl ≤ r * 18446744073709551616 + z → 0 < q ∧ Qq ≤ q - 1 := fun h => by
        have h1 := knuth_no hT hW he (by omega)
        have h2 : T / W < q := by rw [Nat.div_lt_iff_lt_mul (by omega)]; exact h1
        omega
      by_cases k1 : q * vl / 18446744073709551616 < r
      · have := fin (hcmp.2 (.inl k1))
        refine xRF (jn h0 (jn h1 (jn h5 (jn h6 (jn h7 (jn h8 (jn i1 (jn i2 k1)))))))) ?_
        exact ⟨q, rfl, by omega, hq, hQ, this⟩
      by_cases k2 : q * vl / 18446744073709551616 = r
      · by_cases k3 : q * vl % 18446744073709551616 ≤ z
        · have := fin (hcmp.2 (.inr ⟨k2, k3⟩))
          refine xRF (jn h0 (jn h1 (jn h5 (jn h6 (jn h7 (jn h8 (jn i1 (jn i2 (jn k1 (jn k2 (jn k3 (jn g0 (jn hLu @Nat.lt_irrefl))))))))))))) ?_
          exact ⟨q, rfl, by omega, hq, hQ, this⟩
        · have hn : ¬ q * vl ≤ r * 18446744073709551616 + z := fun h => by rcases hcmp.1 h with h | ⟨_, h⟩ <;> omega
          obtain ⟨hq1, hQ1⟩ := hno hn
          have hnx := kd_next hq1 he
          have hd := dec_mod64 hq1 hq
          by_cases go : r + vh < 18446744073709551616
          · have eo : (r + vh) / 18446744073709551616 = 0 := Nat.div_eq_of_lt go
            have em : (r + vh) % 18446744073709551616 = r + vh := Nat.mod_eq_of_lt go
            refine xRF (jn h0 (jn h1 (jn h5 (jn h6 (jn h7 (jn h8 (jn i1 (jn i2 (jn k1 (jn k2 (jn k3 (jn g0 (jn hLu (jn @Nat.lt_irrefl (jn hd (jn hvhe (jn eo (jn em @Nat.add_zero)))))))))))))))))) ?_
            exact ⟨q - 1, by omega, q - 1, r + vh, false, rfl, rfl, rfl, rfl, by omega, by omega, go, hQ1, fun _ => hnx, fun h => (by cases h)⟩
          · have eo : (r + vh) / 18446744073709551616 = 1 := by omega
            have hb := knuth_big hT hW hnx (by omega) (Nat.le_of_lt hvl) (by omega)
            refine xRF (jn h0 (jn h1 (jn h5 (jn h6 (jn h7 (jn h8 (jn i1 (jn i2 (jn k1 (jn k2 (jn k3 (jn g0 (jn hLu (jn @Nat.lt_irrefl (jn hd (jn hvhe (jn eo @Nat.add_zero))))))))))))))))) ?_
            exact ⟨q - 1, rfl, by omega, by omega, hQ1, hb⟩
      · have hn : ¬ q * vl ≤ r * 18446744073709551616 + z := fun h => by rcases hcmp.1 h with h | ⟨h, _⟩ <;> omega
        obtain ⟨hq1, hQ1⟩ := hno hn
        have hnx := kd_next hq1 he
        have hd := dec_mod64 hq1 hq
        by_cases go : r + vh < 18446744073709551616
        · have eo : (r + vh) / 18446744073709551616 = 0 := Nat.div_eq_of_lt go
          have em : (r + vh) % 18446744073709551616 = r + vh := Nat.mod_eq_of_lt go
          refine xRF (jn h0 (jn h1 (jn h5 (jn h6 (jn h7 (jn h8 (jn i1 (jn i2 (jn k1 (jn k2 (jn g0 (jn hLu (jn @Nat.lt_irrefl (jn hd (jn hvhe (jn eo (jn em @Nat.add_zero))))))))))))))))) ?_
          exact ⟨q - 1, by omega, q - 1, r + vh, false, rfl, rfl, rfl, rfl, by omega, by omega, go, hQ1, fun _ => hnx, fun h => (by cases h)⟩
        · have eo : (r + vh) / 18446744073709551616 = 1 := by omega
          have hb := knuth_big hT hW hnx (by omega) (Nat.le_of_lt hvl) (by omega)
          refine xRF (jn h0 (jn h1 (jn h5 (jn h6 (jn h7 (jn h8 (jn i1 (jn i2 (jn k1 (jn k2 (jn g0 (jn hLu (jn @Nat.lt_irrefl (jn hd (jn hvhe (jn eo @Nat.add_zero)))))))))))))))) ?_
          exact ⟨q - 1, rfl, by omega, by omega, hQ1, hb⟩
  rintro ⟨ρ2, σ, c2⟩ ⟨q, h0, h1, h5, h6, hσ, hc2, hq, hQ, hqW⟩
  dsimp only at h0 h1 h5 h6 hσ hc2
  subst hσ
  have hq1 := est_low (q := q) eU eV hlV hqW (Nat.le_of_lt hq) hW0 hV0
  exact guess_sub t tv A u D v m c cap hu hv hun hvn hV0 hUlt hlen q hq (by omega) hq1 ρ2 c2 h0 h1 h5 h6 hc2

def Kn (c : Nat) (t : Tok) : Prop := t = .nil ∨ ∃ i, (t = .id i ∨ t = .sub i) ∧ i < c
theorem Kn.thaw {c t : Nat} {tk : Tok} (h : Kn c tk) (hc : c ≤ t) (l : List Nat) : V.thaw t (nats tk l) = nats tk l := by
  rcases h with rfl | ⟨i, rfl | rfl, hi⟩
  · exact thaw_nil t l
  · exact thaw_id (by omega) l
  · exact thaw_sub (by omega) l
theorem Kn.mono {c d : Nat} {t : Tok} (h : Kn c t) (hc : c ≤ d) : Kn d t := by
  rcases h with rfl | ⟨i, h, hi⟩
  · exact .inl rfl
  · exact .inr ⟨i, h, by omega⟩
theorem Tk.kn {c c' : Nat} {t : Tok} (h : Tk c c' t) : Kn c' t := by
  rcases h with rfl | ⟨i, rfl, _, hi⟩
  · exact .inl rfl
  · exact .inr ⟨i, .inl rfl, hi⟩

theorem divide_spec (t u : Tok) (x y c : Nat) (ht : Kn c t) (hy : 0 < y) (hnx : (digs 18446744073709551616 x).length ≤ 1099511627776) (hny : (digs 18446744073709551616 y).length ≤ 1099511627776) :
    VSpec Try.prog F.div_divide c [nats t (digs 18446744073709551616 x), nats u (digs 18446744073709551616 y)] (fun r c' => ∃ t1 t2, r = .tup [nats t1 (digs 18446744073709551616 (x / y)), nats t2 (digs 18446744073709551616 (x % y))] ∧ Tk c c' t1 ∧ (Tk c c' t2 ∨ t2 = t)) := by
  refine sG hm G.div_divide ?_
  unfold C.div_divide R.div_divide cD
  have hla := lim_digs two64 x
  have hlb := lim_digs two64 y
  have va := val_digs two64 x
  have vb := val_digs two64 y
  refine xR ?_
  refine s_call (compare_spec t u _ _ c hla hlb (by omega) (by omega)) yM ?_
  rintro v c1 hc1 rfl
  rw [va, vb]
  have hcmp : cmpI x y < 0 ↔ x < y := by unfold cmpI; split <;> (try split) <;> omega
  by_cases gc : cmpI x y < 0
  · refine xRF gc ?_
    rw [hcmp] at gc
    rw [Nat.div_eq_of_lt gc, Nat.mod_eq_of_lt gc]
    exact ⟨.nil, t, rfl, .inl rfl, .inr rfl⟩
  have hxy : y ≤ x := by rw [hcmp] at gc; omega
  have hlen : (digs 18446744073709551616 y).length ≤ (digs 18446744073709551616 x).length := le_len two64 hxy
  have hy1 : 0 < (digs 18446744073709551616 y).length := by
    rcases Nat.eq_zero_or_pos (digs 18446744073709551616 y).length with h | h
    · have := (digs_eq_nil two64).1 (List.eq_nil_of_length_eq_zero h); omega
    · exact h
  by_cases g1 : ((digs 18446744073709551616 y).length : Int) = 1
  · have g1' : (digs 18446744073709551616 y).length = 0 + 1 := by omega
    obtain ⟨q1, q2⟩ := digs_top two64 g1'
    rw [List.take_zero, val, Nat.pow_zero, Nat.one_mul, Nat.zero_add] at q2
    have hyl := hlb.getD (i := 0) (by decide)
    rw [← q2] at hyl
    generalize digs 18446744073709551616 x = xs at *
    generalize digs 18446744073709551616 y = ys at *
    have g1n : (ys.length : Int) = 1 := g1
    refine xRF (jn gc g1) ?_
    refine s_mk (n := xs.length) (m := xs.length) yS yS (Nat.le_refl _) (by omega) ?_
    refine xR ?_
    refine v_loop (fun S => ∃ w, w.length = xs.length ∧ Lim 18446744073709551616 w ∧ val 18446744073709551616 w = x / y ∧ S.ρ 6 = .buf c1 0 xs.length (some xs.length) 1 ∧ S.ρ 7 = nv (x % y) ∧ S.σ = supd noBlk c1 (nblk w) ∧ c1 + 1 ≤ S.c) ?_ ?_
    · refine vwp_loop (fun k S => ∃ w rest, k ≤ xs.length ∧ w.length = xs.length - k ∧ Lim 18446744073709551616 w ∧ val 18446744073709551616 w * y + rest = val 18446744073709551616 (xs.drop k) ∧ rest < y ∧ S.ρ 0 = nats t xs ∧ S.ρ 1 = nats u ys ∧ S.ρ 6 = .buf c1 0 xs.length (some xs.length) 1 ∧ S.ρ 7 = nv rest ∧ S.ρ 8 = iv ((k : Int) - 1) ∧ S.σ = supd noBlk c1 (nblk (List.replicate k 0 ++ w)) ∧ c1 + 1 ≤ S.c) xs.length ?_ ?_
      · refine ⟨[], 0, Nat.le_refl _, ?_⟩
        simp only [vm, ite_true, ite_false, eq_self, reduceIte, Nat.reduceEqDiff, Option.map, List.drop_length]
        (repeat' apply And.intro) <;> first | rfl | omega | assumption | exact Lim.nil | (simp [val]; done)
      rintro k ⟨ρ2, σ, c4⟩ ⟨w, rest, hk, hw, hlw, hinv, hr, h0, h1, h6, h7, h8, hσ, hc4⟩
      dsimp only at h0 h1 h6 h7 h8 hσ hc4
      subst hσ
      rcases Nat.eq_zero_or_pos k with rfl | hkp
      · have g : ¬ (0 : Int) ≤ ((0 : Nat) : Int) - 1 := by omega
        refine xRF (jn h8 g) ?_
        rw [List.drop_zero, va] at hinv
        obtain ⟨e1, e2⟩ := div_mod_of hinv hr
        refine ⟨w, ?_⟩
        rw [e1, e2]
        exact yA
      · obtain ⟨i, rfl⟩ : ∃ i, k = i + 1 := ⟨k - 1, by omega⟩
        have e1 : (((i + 1 : Nat) : Int) - 1) = (i : Int) := by omega
        have g : (0 : Int) ≤ (i : Int) := by omega
        rw [e1] at h8
        have hset : ∀ v, (List.replicate (i + 1) 0 ++ w).set i v = List.replicate i 0 ++ (v :: w) := fun v => set_top w i v
        have hlen2 : (List.replicate (i + 1) 0 ++ w).length = xs.length := by simp; omega
        have hxi := hla.getD (i := i) (by decide)
        have hq := dig_lt hr hxi
        have hdm := Nat.div_add_mod (rest * 18446744073709551616 + xs.getD i 0) y
        have hrm := Nat.mod_lt (rest * 18446744073709551616 + xs.getD i 0) hy
        obtain ⟨q, hqd⟩ : ∃ q, q = (rest * 18446744073709551616 + xs.getD i 0) / y := ⟨_, rfl⟩
        obtain ⟨r, hrd⟩ : ∃ r, r = (rest * 18446744073709551616 + xs.getD i 0) % y := ⟨_, rfl⟩
        rw [← hqd, ← hrd, Nat.mul_comm] at hdm
        rw [← hqd] at hq
        rw [← hrd] at hrm
        have key := thr_step hinv hdm
        rw [← val_drop (l := xs) (i := i) (by omega)] at key
        have hz : (0 : Int).toNat = 0 := rfl
        (repeat (first | refine v_reg ?_ | refine v_last ?_ | refine vwp_seq ?_ | refine vwp_block ?_ | refine vwp_skip ?_ | refine vwp_exit ?_ | refine vwp_ret ?_ | refine v_cond ?_ | simp only [vm, ite_true, ite_false, eq_self, reduceIte, Nat.reduceEqDiff, Option.map, h0, h1, h6, h7, h8, g, g1', hz, ← q2] | refine And.intro (by omega) ?_))
        refine s_call (div64_spec rest (xs.getD i 0) y c4 hxi hyl hr) (yMF (jn h0 (jn h1 (jn h6 (jn h7 h8))))) ?_
        rintro v c5 hc5 rfl
        rw [← hqd, ← hrd]
        refine xRF (jn h0 (jn h1 (jn h6 (jn h7 (jn h8 (jn hset hlen2)))))) ?_
        refine ⟨i, by omega, q :: w, r, ?_⟩
        (repeat' apply And.intro) <;> first | rfl | omega | assumption | (simp [hw]; omega) | exact Lim.cons hq hlw | exact key
    rintro ⟨ρ3, σ, c5⟩ ⟨w, hw, hlw, hvw, h6, h7, hσ, hc5⟩
    dsimp only at h6 h7 hσ hc5
    subst hσ
    refine v_freeze 6 (t := c1) (off := 0) (n := xs.length) (cap := some xs.length) (l := w) (ySF h6) yS (by omega) (by omega) ?_
    rw [List.drop_zero, show w.take xs.length = w from List.take_of_length_le (by omega)]
    refine xRF h7 ?_
    refine s_call (norm_spec (.id c1) w c5 hlw (by omega)) yM ?_
    rintro v c6 hc6 ⟨t6, rfl, ht6⟩
    rw [hvw]
    refine xRF h7 ?_
    refine s_call (from_spec (x % y) c6 (by have := Nat.mod_lt x hy; omega)) (yMF h7) ?_
    rintro v c7 hc7 ⟨t7, rfl, ht7⟩
    refine xR ?_
    exact ⟨t6, t7, rfl, ht6.mono (by omega) (by omega), .inl (ht7.mono (by omega) (by omega))⟩
  -- more than one limb
  obtain ⟨m, hm2⟩ : ∃ m, (digs 18446744073709551616 y).length = m + 2 := ⟨(digs 18446744073709551616 y).length - 2, by omega⟩
  obtain ⟨s, hs⟩ : ∃ s, s = 64 - bl ((digs 18446744073709551616 y).getD (m + 1) 0) := ⟨_, rfl⟩
  obtain ⟨q1, q2, q3⟩ := norm_val (m := m + 1) hm2 hs
  have htl := hlb.getD (i := m + 1) (by decide)
  have hbtop := bl_le (n := (digs 18446744073709551616 y).getD (m + 1) 0) (k := 64) htl
  have hyv : 18446744073709551616 ^ (m + 1) ≤ y := by
    obtain ⟨p1, p2⟩ := digs_top (m := m + 1) two64 hm2
    have : 18446744073709551616 ^ (m + 1) * 1 ≤ 18446744073709551616 ^ (m + 1) * (digs 18446744073709551616 y).getD (m + 1) 0 := Nat.mul_le_mul_left _ (by omega)
    omega
  have hxv : x < 18446744073709551616 ^ (digs 18446744073709551616 x).length := by have := val_lt hla; rwa [va] at this
  generalize digs 18446744073709551616 x = xs at *
  generalize hys : digs 18446744073709551616 y = ys at *
  have i1 : ((m + 2 : Nat) : Int) - 1 = ((m + 1 : Nat) : Int) := by omega
  have gm : ¬ ((m + 2 : Nat) : Int) = 1 := by omega
  refine xRF (jn gc (jn hm2 (jn gm i1))) ?_
  refine s_call (lz64_spec _ c1 htl) yM ?_
  rintro v c2 hc2 rfl
  have es : ((64 : Int) - (bl (ys.getD (m + 1) 0) : Int)).toNat = s := by omega
  refine xRF es ?_
  refine s_call (up_spec t xs s c2 hla q1 (by omega)) yM ?_
  rintro v c3 hc3 ⟨lu, iu, rfl, hu1, hu2, hlu, hun, hvu⟩
  refine xRF hm2 ?_
  refine s_call (up_spec u ys s c3 hlb q1 (by omega)) yM ?_
  rintro v c4 hc4 ⟨lv, iv2, rfl, hv1, hv2, hlv, hvn, hvv⟩
  rw [va] at hvu
  rw [vb] at hvv
  rw [hm2] at hvn
  have hcut := top_zero (b := 18446744073709551616) (n := m + 2) (by decide) hvn (by rw [hvv]; exact q2)
  have hvv2 : val 18446744073709551616 (lv.take (m + 2)) = y * 2 ^ s := by
    have : val 18446744073709551616 lv = val 18446744073709551616 (lv.take (m + 2)) := by conv => lhs; rw [hcut, val_snoc0]
    omega
  have hlvt : Lim 18446744073709551616 (lv.take (m + 2)) := hlv.take
  have hvtn : (lv.take (m + 2)).length = m + 2 := by simp; omega
  have htop := top_ge (n := m + 1) (k := 9223372036854775808) (by decide) hlvt hvtn (by rw [hvv2]; exact q3)
  have hmm : ((m + 2 : Nat) : Int).toNat = m + 2 := by omega
  refine xSF (jn hm2 hmm) ?_
  refine ⟨by omega, ?_⟩
  generalize lv.take (m + 2) = vv at *
  have hlu0 : lu ≠ [] := by intro e; rw [e] at hun; simp at hun
  have hth0 : ∀ l, V.thaw iu (nats t l) = nats t l := ht.thaw (by omega)
  have hth1 : ∀ l, V.thaw iu (nats (.id iv2) l) = nats (.id iv2) l := thaw_id (by omega)
  refine v_thaw 10 (t := iu) (l := lu) yS (by omega) hlu0 LitB.no ?_
  have eN : (xs.length : Int) - ((m + 2 : Nat) : Int) = ((xs.length - (m + 2) : Nat) : Int) := by omega
  refine xRF (jn hth0 (jn hth1 (jn @thaw_lit (jn hvtn eN)))) ?_
  refine s_mk (n := xs.length - (m + 2) + 1) (m := xs.length - (m + 2) + 1) ySr ySr (Nat.le_refl _) (by omega) ?_
  obtain ⟨N, hN⟩ : ∃ N, N = xs.length - (m + 2) := ⟨_, rfl⟩
  have hNx : xs.length = N + (m + 2) := by omega
  rw [← hN]
  refine xRF (jn hth0 (jn hth1 (jn @thaw_lit (jn hvtn eN)))) ?_
  have hne : iu ≠ c4 := by omega
  have hV0 : 0 < val 18446744073709551616 vv := by rw [hvv2]; exact Nat.mul_pos hy (Nat.two_pow_pos s)
  have hfirst := first_rest (n := m + 2) (s := s) hlu hun hvu hxv (by omega) (by omega) (y := y) (by rw [show m + 2 - 1 = m + 1 by omega]; exact hyv)
  rw [show xs.length - (m + 2) + 1 = N + 1 by omega, ← hvv2] at hfirst
  refine v_loop (fun S => ∃ qs rem, qs.length = N + 1 ∧ rem.length = m + 2 ∧ Lim 18446744073709551616 qs ∧ Lim 18446744073709551616 rem ∧ val 18446744073709551616 qs * val 18446744073709551616 vv + val 18446744073709551616 rem = x * 2 ^ s ∧ val 18446744073709551616 rem < val 18446744073709551616 vv ∧ S.ρ 9 = nv s ∧ S.ρ 12 = iv ((m + 2 : Nat) : Int) ∧ S.ρ 10 = .buf iu 0 lu.length none 1 ∧ S.ρ 13 = .buf c4 0 (N + 1) (some (N + 1)) 1 ∧
      S.σ = supd (supd noBlk iu (nblk (rem ++ List.replicate (N + 1) 0))) c4 (nblk qs) ∧ c4 + 1 ≤ S.c) ?_ ?_
  · refine vwp_loop (fun k S => ∃ qs rem, k ≤ N + 1 ∧ qs.length = N + 1 - k ∧ rem.length = m + 2 ∧ Lim 18446744073709551616 qs ∧ Lim 18446744073709551616 rem ∧ val 18446744073709551616 qs * val 18446744073709551616 vv + val 18446744073709551616 rem = val 18446744073709551616 (lu.drop k) ∧ val 18446744073709551616 rem < val 18446744073709551616 vv ∧ S.ρ 9 = nv s ∧ S.ρ 11 = nats (.id iv2) vv ∧ S.ρ 12 = iv ((m + 2 : Nat) : Int) ∧ S.ρ 14 = iv ((k : Int) - 1) ∧ S.ρ 10 = .buf iu 0 lu.length none 1 ∧ S.ρ 13 = .buf c4 0 (N + 1) (some (N + 1)) 1 ∧
      S.σ = supd (supd noBlk iu (nblk ((lu.take k ++ rem) ++ List.replicate (N + 1 - k) 0))) c4 (nblk (List.replicate k 0 ++ qs)) ∧ c4 + 1 ≤ S.c) (N + 1) ?_ ?_
    · refine ⟨[], lu.drop (N + 1), Nat.le_refl _, ?_⟩
      simp only [vm, ite_true, ite_false, eq_self, reduceIte, Nat.reduceEqDiff, Option.map, hth0, hth1, thaw_lit, Nat.sub_self, List.replicate_zero, List.append_nil, List.take_append_drop]
      (repeat' apply And.intro) <;> first | rfl | omega | assumption | (simp; done) | (simp; omega) | exact Lim.nil | exact hlu.drop | (simp [val]; done) | exact hfirst | (congr 1; omega)
    rintro k ⟨ρ2, σ, c5⟩ ⟨qs, rem, hk, hqs, hrem, hlq, hlr, hinv, hrv, h9, h11, h12, h14, h10, h13, hσ, hc5⟩
    dsimp only at h9 h11 h12 h14 h10 h13 hσ hc5
    subst hσ
    rcases Nat.eq_zero_or_pos k with rfl | hkp
    · have g : ¬ (0 : Int) ≤ ((0 : Nat) : Int) - 1 := by omega
      refine xRF (jn h14 g) ?_
      rw [List.drop_zero, hvu] at hinv
      refine ⟨qs, rem, ?_⟩
      exact yA
    · obtain ⟨j, rfl⟩ : ∃ j, k = j + 1 := ⟨k - 1, by omega⟩
      have e1 : (((j + 1 : Nat) : Int) - 1) = (j : Int) := by omega
      have g : (0 : Int) ≤ (j : Int) := by omega
      rw [e1] at h14
      have e2 : ((j : Int) + ((m + 2 : Nat) : Int) + 1).toNat - j = m + 3 := by omega
      have hjl : j < lu.length := by omega
      have hwin : (lu.take (j + 1) ++ rem) ++ List.replicate (N + 1 - (j + 1)) 0 = (lu.take j ++ (lu.getD j 0 :: rem)) ++ List.replicate (N + 1 - (j + 1)) 0 := by rw [take_snoc hjl]; simp
      have hjt : (lu.take j).length = j := by simp; omega
      have hlj := hlu.getD (i := j) (by decide)
      have hwv : val 18446744073709551616 (lu.getD j 0 :: rem) < val 18446744073709551616 vv * 18446744073709551616 := by
        have : (val 18446744073709551616 rem + 1) * 18446744073709551616 ≤ val 18446744073709551616 vv * 18446744073709551616 := Nat.mul_le_mul_right _ hrv
        rw [Nat.add_mul, Nat.one_mul] at this
        rw [val, Nat.mul_comm]
        omega
      have hdm := Nat.div_add_mod (val 18446744073709551616 (lu.getD j 0 :: rem)) (val 18446744073709551616 vv)
      have hmod := Nat.mod_lt (val 18446744073709551616 (lu.getD j 0 :: rem)) hV0
      have hqlt : val 18446744073709551616 (lu.getD j 0 :: rem) / val 18446744073709551616 vv < 18446744073709551616 := by rw [Nat.div_lt_iff_lt_mul hV0, Nat.mul_comm]; exact hwv
      have hgs := guess_spec iu (.id iv2) (lu.take j) (lu.getD j 0 :: rem) (List.replicate (N + 1 - (j + 1)) 0) vv m c5 none (.cons hlj hlr) hlvt (by simp; omega) hvtn htop hwv (by simp; omega)
      rw [hjt, ← hwin] at hgs
      have hlen4 : (List.replicate (j + 1) 0 ++ qs).length = N + 1 := by simp; omega
      have hset4 : ∀ v, (List.replicate (j + 1) 0 ++ qs).set j v = List.replicate j 0 ++ (v :: qs) := fun v => set_top qs j v
      have hct : capTop none lu.length = (lu.length : Int) := rfl
      have hnc : ∀ k, newCap none none k = none := fun _ => rfl
      refine xRF (jn h9 (jn h10 (jn h11 (jn h12 (jn h13 (jn h14 (jn g (jn e2 (jn hct hnc))))))))) ?_
      refine s_call1 iu (l := (lu.take (j + 1) ++ rem) ++ List.replicate (N + 1 - (j + 1)) 0) (ySF hne) (fun s hs => by simp only [supd]; rw [if_neg (by omega), if_neg (by omega)]; rfl) hgs (yMF (jn h9 (jn h10 (jn h11 (jn h12 (jn h13 (jn h14 e2))))))) ?_
      rintro v σ' c6 hc6 ⟨rfl, u', hσ', hun', hul', huv'⟩
      have hut := top_zero (b := 18446744073709551616) (n := m + 2) (by decide) hun' (by rw [huv']; have := val_lt hlvt; rw [hvtn] at this; omega)
      have hut2 : val 18446744073709551616 u' = val 18446744073709551616 (u'.take (m + 2)) := by conv => lhs; rw [hut, val_snoc0]
      rw [hσ']
      have hne2 : ¬ c4 = iu := by omega
      have hsw : ∀ a b e d, supd (supd (supd (supd noBlk iu a) c4 b) iu e) c4 d = supd (supd noBlk iu e) c4 d := fun a b e d => by
        funext s
        simp only [supd]
        by_cases k1 : s = c4
        · simp [k1]
        · by_cases k2 : s = iu
          · simp [k1, k2]
          · simp [k1, k2]
      refine xRF (jn h9 (jn h10 (jn h11 (jn h12 (jn h13 (jn h14 (jn hlen4 (jn hset4 (jn hne2 hsw))))))))) ?_
      have hzz : (lu.take j ++ u') ++ List.replicate (N + 1 - (j + 1)) 0 = (lu.take j ++ u'.take (m + 2)) ++ List.replicate (N + 1 - j) 0 := by
        rw [show N + 1 - j = (N + 1 - (j + 1)) + 1 by omega, List.replicate_succ]
        conv => lhs; rw [hut]
        simp
      rw [hzz]
      refine ⟨j, by omega, val 18446744073709551616 (lu.getD j 0 :: rem) / val 18446744073709551616 vv :: qs, u'.take (m + 2), ?_⟩
      have key : val 18446744073709551616 (val 18446744073709551616 (lu.getD j 0 :: rem) / val 18446744073709551616 vv :: qs) * val 18446744073709551616 vv + val 18446744073709551616 (u'.take (m + 2)) = val 18446744073709551616 (lu.drop j) := by
        rw [val_drop hjl, ← hinv, ← hut2, huv', val, val] at *
        rw [Nat.add_mul, Nat.mul_add, Nat.mul_assoc]
        rw [Nat.mul_comm (val 18446744073709551616 vv)] at hdm
        omega
      (repeat' apply And.intro) <;> first | rfl | omega | assumption | (simp; omega) | exact Lim.cons hqlt hlq | exact hul'.take | exact key
  rintro ⟨ρ3, σ, c5⟩ ⟨qs, rem, hqs, hrem, hlq, hlr, hinv, hrv, h9, h12, h10, h13, hσ, hc5⟩
  dsimp only at h9 h12 h10 h13 hσ hc5
  subst hσ
  refine v_freeze 13 (t := c4) (off := 0) (n := N + 1) (cap := some (N + 1)) (l := qs) (ySF h13) yS (by omega) (by omega) ?_
  rw [List.drop_zero, show qs.take (N + 1) = qs from List.take_of_length_le (by omega)]
  refine v_freeze 10 (t := iu) (off := 0) (n := lu.length) (cap := none) (l := rem ++ List.replicate (N + 1) 0) (ySF h10) (ySF hne) (by omega) (by simp; omega) ?_
  have hall : (rem ++ List.replicate (N + 1) 0).take lu.length = rem ++ List.replicate (N + 1) 0 := List.take_of_length_le (by simp; omega)
  rw [List.drop_zero, hall]
  obtain ⟨e1, e2⟩ := div_mod_of hinv hrv
  rw [hvv2] at e1 e2
  rw [(shift_div (x := x) (y := y) (s := s)).1] at e1
  rw [(shift_div (x := x) (y := y) (s := s)).2] at e2
  have htk : (rem ++ List.replicate (N + 1) 0).take (m + 2) = rem := by rw [List.take_append_of_le_length (by omega), List.take_of_length_le (by omega)]
  refine xRF (jn h9 h12) ?_
  refine s_call (norm_spec (.id c4) qs c5 hlq (by omega)) yM ?_
  rintro v c6 hc6 ⟨t6, rfl, ht6⟩
  rw [← e1]
  have hrl : (rem ++ List.replicate (N + 1) 0).length = m + 2 + (N + 1) := by simp; omega
  refine xRF (jn h9 (jn h12 (jn hmm (jn htk hrl)))) ?_
  refine s_call (down_spec (.id iu) rem s c6 hlr q1 (by omega)) yM ?_
  rintro v c7 hc7 ⟨t7, rfl, ht7⟩
  rw [← e2, Nat.mul_div_cancel _ (Nat.two_pow_pos s)]
  refine xR ?_
  exact ⟨t6, t7, rfl, ht6.mono (by omega) (by omega), .inl (ht7.mono (by omega) (by omega))⟩

theorem quo_spec (t u : Tok) (a b : List Nat) (c : Nat) (ha : Lim 18446744073709551616 a) (hb : Lim 18446744073709551616 b) (hna : a.length ≤ 1099511627776) (hnb : b.length ≤ 1099511627776) :
    VSpec Try.prog F.div_Quo c [nats t a, nats u b] (fun r c' => (val 18446744073709551616 b = 0 → r = .tup [nil1, iv 30]) ∧ (0 < val 18446744073709551616 b → Told c c' (val 18446744073709551616 a / val 18446744073709551616 b) r)) := by
  refine sG hm G.div_Quo ?_
  unfold C.div_Quo R.div_Quo cD
  refine xR ?_
  refine s_call (norm_spec t a c ha (by omega)) yM ?_
  rintro v c1 hc1 ⟨t1, rfl, ht1⟩
  refine xR ?_
  refine s_call (norm_spec u b c1 hb (by omega)) yM ?_
  rintro v c2 hc2 ⟨t2, rfl, ht2⟩
  have hla := digs_len_le two64 ha
  have hlb := digs_len_le two64 hb
  have hnil := digs_eq_nil two64 (n := val 18446744073709551616 b)
  by_cases g : val 18446744073709551616 b = 0
  · have g1 : ((digs 18446744073709551616 (val 18446744073709551616 b)).length : Int) = 0 := by rw [hnil.2 g]; rfl
    refine xRF g1 ?_
    exact ⟨fun _ => trivial, fun h => absurd h (by omega)⟩
  have g1 : ¬ ((digs 18446744073709551616 (val 18446744073709551616 b)).length : Int) = 0 := by
    intro e
    have := List.eq_nil_of_length_eq_zero (show (digs 18446744073709551616 (val 18446744073709551616 b)).length = 0 by omega)
    exact g (hnil.1 this)
  refine xRF g1 ?_
  refine s_call (divide_spec t1 t2 (val 18446744073709551616 a) (val 18446744073709551616 b) c2 (ht1.kn.mono hc2) (by omega) (by omega) (by omega)) yM ?_
  rintro v c3 hc3 ⟨t3, t4, rfl, ht3, _⟩
  have hq := lim_digs two64 (val 18446744073709551616 a / val 18446744073709551616 b)
  have hqn : (digs 18446744073709551616 (val 18446744073709551616 a / val 18446744073709551616 b)).length ≤ 1099511627776 := Nat.le_trans (le_len two64 (Nat.div_le_self _ _)) (by omega)
  have hqv := val_digs two64 (val 18446744073709551616 a / val 18446744073709551616 b)
  refine xRF g1 ?_
  refine s_call (length_spec t3 _ c3 hq (by omega)) yM ?_
  rintro v c4 hc4 rfl
  rw [hqv]
  by_cases gb : (67108864 : Int) < (bl (val 18446744073709551616 a / val 18446744073709551616 b) : Int)
  · refine xRF gb ?_
    exact fun _ => .inr ⟨by omega, rfl⟩
  · refine xRF gb ?_
    exact fun _ => .inl ⟨by omega, t3, rfl, ht3.mono (by omega) (by omega)⟩
end Go.Proofs.Ythjnmfieicniaaa
namespace Go.VM
def IsRoot (A k r : Nat) : Prop := r ^ k ≤ A ∧ A < (r + 1) ^ k
theorem root_exists {A k : Nat} (hk : 0 < k) : ∃ r, IsRoot A k r := by
  have key : ∀ n, A < (n + 1) ^ k → ∃ r, IsRoot A k r := by
    intro n
    induction n with
    | zero => intro h; exact ⟨0, by rw [Nat.zero_pow hk]; exact Nat.zero_le _, h⟩
    | succ n ih =>
      intro h
      rcases Nat.lt_or_ge A ((n + 1) ^ k) with g | g
      · exact ih g
      · exact ⟨n + 1, g, h⟩
  refine key A ?_
  have h1 : (A + 1) ^ 1 ≤ (A + 1) ^ k := Nat.pow_le_pow_right (by omega) hk
  rw [Nat.pow_one] at h1
  omega
theorem root_unique {A k r s : Nat} (hr : IsRoot A k r) (hs : IsRoot A k s) : r = s := by
  have key : ∀ {r s : Nat}, IsRoot A k r → IsRoot A k s → ¬ r < s := fun {r s} hr hs h => by
    have : (r + 1) ^ k ≤ s ^ k := Nat.pow_le_pow_left h k
    have := hr.2; have := hs.1
    omega
  have h1 := key hr hs
  have h2 := key hs hr
  omega
theorem sq_le (r x : Nat) : 2 * (r * x) ≤ r * r + x * x := by
  rcases Nat.le_total r x with h | h
  · obtain ⟨d, rfl⟩ := Nat.le.dest h
    have : (r + d) * (r + d) = r * r + r * d + (r * d + d * d) := by rw [Nat.add_mul, Nat.mul_add, Nat.mul_add, Nat.mul_comm d r]
    rw [this, Nat.mul_add]
    omega
  · obtain ⟨d, rfl⟩ := Nat.le.dest h
    have : (x + d) * (x + d) = x * x + x * d + (x * d + d * d) := by rw [Nat.add_mul, Nat.mul_add, Nat.mul_add, Nat.mul_comm d x]
    rw [this, Nat.add_mul, Nat.mul_comm d x]
    omega
theorem bern (r x : Nat) : ∀ k : Nat, (k + 1) * (r * x ^ k) ≤ k * x ^ (k + 1) + r ^ (k + 1)
  | 0 => by simp
  | k + 1 => by
    have ih := Nat.mul_le_mul_left r (bern r x k)
    have sq := Nat.mul_le_mul_left ((k + 1) * x ^ k) (sq_le r x)
    have e1 : r * ((k + 1) * (r * x ^ k)) = (k + 1) * x ^ k * (r * r) := by ac_rfl
    have e2 : r * (k * x ^ (k + 1) + r ^ (k + 1)) = k * (r * x ^ (k + 1)) + r ^ (k + 1 + 1) := by
      rw [Nat.mul_add, Nat.pow_succ r (k + 1)]; ac_rfl
    have e3 : (k + 1) * x ^ k * (2 * (r * x)) = (k + 1) * (r * x ^ (k + 1)) + (k + 1) * (r * x ^ (k + 1)) := by
      rw [Nat.pow_succ, ← Nat.two_mul]; ac_rfl
    have e4 : (k + 1) * x ^ k * (x * x) = (k + 1) * x ^ (k + 1 + 1) := by rw [Nat.pow_succ, Nat.pow_succ]; ac_rfl
    have e5 : (k + 1 + 1) * (r * x ^ (k + 1)) = (k + 1) * (r * x ^ (k + 1)) + r * x ^ (k + 1) := by rw [Nat.add_mul (k + 1) 1, Nat.one_mul]
    have e6 : (k + 1) * (r * x ^ (k + 1)) = k * (r * x ^ (k + 1)) + r * x ^ (k + 1) := by rw [Nat.add_mul k 1, Nat.one_mul]
    rw [e1, e2] at ih
    rw [e3, Nat.mul_add, e4] at sq
    rw [e5]
    omega
theorem newton_ge {A j r x : Nat} (hr : r ^ (j + 1) ≤ A) (hx : 0 < x) : r ≤ (x * j + A / x ^ j) / (j + 1) := by
  rw [Nat.le_div_iff_mul_le (by omega)]
  have hp : 0 < x ^ j := Nat.pow_pos hx
  have h := bern r x j
  have e : A / x ^ j + x * j = (A + x * j * x ^ j) / x ^ j := (Nat.add_mul_div_right A (x * j) hp).symm
  rw [Nat.add_comm (x * j), e, Nat.le_div_iff_mul_le hp]
  have e2 : r * (j + 1) * x ^ j = (j + 1) * (r * x ^ j) := by ac_rfl
  have e3 : x * j * x ^ j = j * x ^ (j + 1) := by rw [Nat.pow_succ]; ac_rfl
  rw [e2, e3]
  omega
theorem newton_stop {A j x : Nat} (hx : 0 < x) (h : x ≤ (x * j + A / x ^ j) / (j + 1)) : x ^ (j + 1) ≤ A := by
  rw [Nat.le_div_iff_mul_le (by omega), Nat.mul_add, Nat.mul_one] at h
  have h2 : x ≤ A / x ^ j := by omega
  rw [Nat.le_div_iff_mul_le (Nat.pow_pos hx)] at h2
  rw [Nat.pow_succ, Nat.mul_comm]
  exact h2
theorem newton_start {A L k c : Nat} (hA : A < 2 ^ L) (hk : 0 < k) (hc : c = (L + k - 1) / k) : A < (2 ^ c) ^ k := by
  refine Nat.lt_of_lt_of_le hA ?_
  rw [← Nat.pow_mul]
  refine Nat.pow_le_pow_right (by decide) ?_
  have h1 := Nat.div_add_mod (L + k - 1) k
  have h2 := Nat.mod_lt (L + k - 1) hk
  rw [← hc, Nat.mul_comm] at h1
  omega
theorem lt_of_pow_lt {a b k : Nat} (h : a ^ k < b ^ k) : a < b := by
  rcases Nat.lt_or_ge a b with g | g
  · exact g
  · have := Nat.pow_le_pow_left g k
    omega
theorem bl_half {k L : Nat} (hk : 2 ≤ k) : (L + k - 1) / k ≤ (L + 1) / 2 := by
  rw [Nat.div_le_iff_le_mul_add_pred (by omega)]
  have h1 := Nat.div_add_mod (L + 1) 2
  have h2 := Nat.mod_lt (L + 1) (show 0 < 2 by decide)
  have h3 : 2 * ((L + 1) / 2) ≤ k * ((L + 1) / 2) := Nat.mul_le_mul_right _ hk
  omega
theorem bl_prod {x j c e : Nat} (hx : x ≤ 2 ^ c) (hj : j < 2 ^ e) : x * j < 2 ^ (c + e) := by
  rw [Nat.pow_add]
  rcases Nat.eq_zero_or_pos j with h | h
  · rw [h, Nat.mul_zero]; exact Nat.mul_pos (Nat.two_pow_pos c) (Nat.two_pow_pos e)
  · exact Nat.lt_of_le_of_lt (Nat.mul_le_mul_right j hx) (Nat.mul_lt_mul_of_pos_left hj (Nat.two_pow_pos c))
theorem bl_sum {a b m : Nat} (ha : a < 2 ^ m) (hb : b < 2 ^ m) : a + b < 2 ^ (m + 1) := by rw [Nat.pow_succ]; omega
end Go.VM
namespace Go.Proofs.Ythjnmfieicniaaa
open Go.VM

theorem v_cut2 {P : Program} {c0 : Nat} {S : VS} {Q : VEx → VS → Prop} {a b y : VC} (M : VS → Prop) (h1 : VWP P c0 a (thenQ P c0 b fun e S => e = .normal ∧ M S) S) (h2 : ∀ S, M S → VWP P c0 y Q S) : VWP P c0 (.seq a (.seq b y)) Q S := by
  refine vwp_seq (vwp_mono h1 ?_)
  intro e S' h
  cases e with
  | normal =>
    rw [thenQ_normal] at h ⊢
    exact v_cut M h h2
  | exit j => rw [thenQ_exit] at h; cases h.1
  | ret => rw [thenQ_ret] at h; cases h.1

theorem fits_spec (t : Tok) (a : List Nat) (c : Nat) (ha : Lim 18446744073709551616 a) (hna : a.length ≤ 1099511627776) :
    VSpec Try.prog F.roots_fits c [nats t a] (fun r c' => Told c c' (val 18446744073709551616 a) r) := by
  refine sG hm G.roots_fits ?_
  unfold C.roots_fits R.roots_fits cD
  refine xR ?_
  refine s_call (length_spec t a c ha (by omega)) yM ?_
  rintro v c1 hc1 rfl
  by_cases g : (67108864 : Int) < (bl (val 18446744073709551616 a) : Int)
  · refine xRF g ?_
    exact .inr ⟨by omega, rfl⟩
  refine xRF g ?_
  refine s_call (norm_spec t a c1 ha (by omega)) yM ?_
  rintro v c2 hc2 ⟨t2, rfl, ht2⟩
  refine xR ?_
  exact .inl ⟨by omega, t2, rfl, ht2.mono (by omega) (by omega)⟩

theorem power_spec (n c : Nat) (hn : n < 67108864) : VSpec Try.prog F.roots_power c [iv n] (fun r c' => NatR c c' (2 ^ n) r) := by
  refine sG hm G.roots_power ?_
  unfold C.roots_power R.roots_power cD
  refine xR ?_
  refine s_call (from_spec 1 c (by decide)) yM ?_
  rintro v c1 hc1 ⟨t1, rfl, ht1⟩
  have h1 := lim_digs two64 1
  have v1 := val_digs two64 1
  have l1 : (digs 18446744073709551616 1).length ≤ 1 := digs_len two64 (by decide)
  generalize digs 18446744073709551616 1 = one at *
  refine xR ?_
  refine s_call (left_spec t1 one n c1 h1 (by omega) (by omega)) yM ?_
  rw [v1, Nat.one_mul]
  rintro v c2 hc2 (⟨hb, t2, rfl, ht2⟩ | ⟨hb, rfl⟩)
  · refine xR ?_
    exact ⟨t2, rfl, ht2.mono (by omega) (by omega)⟩
  · have : bl (2 ^ n) ≤ n + 1 := bl_le (Nat.pow_lt_pow_right (by decide) (by omega))
    omega

theorem less_root (t u : Tok) (a b : List Nat) (c : Nat) (ha : Lim 18446744073709551616 a) (hb : Lim 18446744073709551616 b) (hna : a.length ≤ 1099511627776) (hnb : b.length ≤ 1099511627776) (hle : val 18446744073709551616 b ≤ val 18446744073709551616 a) (hbl : bl (val 18446744073709551616 a) ≤ 67108864) :
    VSpec Try.prog F.roots_less c [nats t a, nats u b] (fun r c' => NatR c c' (val 18446744073709551616 a - val 18446744073709551616 b) r) := by
  refine sG hm G.roots_less ?_
  unfold C.roots_less R.roots_less cD
  refine xR ?_
  refine s_call (sub_spec t u a b c ha hb hna hnb) yM ?_
  rintro v c1 hc1 h
  rw [if_neg (by omega)] at h
  rcases h with ⟨hb', t2, rfl, ht2⟩ | ⟨hb', rfl⟩
  · refine xR ?_
    exact ⟨t2, rfl, ht2.mono (by omega) (by omega)⟩
  · have := bl_mono (Nat.sub_le (val 18446744073709551616 a) (val 18446744073709551616 b))
    omega

theorem newton_spec (t : Tok) (A0 k c : Nat) (hA : 0 < A0) (hL : bl A0 ≤ 67108864) (hk : 2 ≤ k) (hk63 : k < 9223372036854775808) :
    VSpec Try.prog F.roots_newton c [nats t (digs 18446744073709551616 A0), iv k] (fun r c' => ∃ x, NatR c c' x r ∧ IsRoot A0 k x) := by
  refine sG hm G.roots_newton ?_
  unfold C.roots_newton R.roots_newton cD
  have hla := lim_digs two64 A0
  have va := val_digs two64 A0
  have hna : (digs 18446744073709551616 A0).length ≤ 1048576 := digs_len_bl (by omega)
  refine xR ?_
  refine s_call (length_spec t _ c hla (by omega)) yM ?_
  rintro v c1 hc1 rfl
  rw [va]
  by_cases g1 : (bl A0 : Int) ≤ k
  · refine xRF g1 ?_
    refine s_call (from_spec 1 c1 (by decide)) yM ?_
    rintro v c2 hc2 ⟨t2, rfl, ht2⟩
    refine xR ?_
    refine ⟨1, ⟨t2, rfl, ht2.mono (by omega) (by omega)⟩, by rw [Nat.one_pow]; exact hA, ?_⟩
    exact Nat.lt_of_lt_of_le (lt_bl A0) (Nat.pow_le_pow_right (by decide) (by omega))
  have hbp := bl_pos hA
  have hAlow := le_of_bl hA
  have hAlt := lt_bl A0
  generalize hLd : bl A0 = L at *
  have hkL : k < L := by omega
  obtain ⟨r, hr⟩ := root_exists (A := A0) (k := k) (by omega)
  have hr2 : 2 ≤ r := by
    have h1 : 2 ^ k ≤ A0 := Nat.le_trans (Nat.pow_le_pow_right (by decide) (by omega)) hAlow
    have h2 : 2 ^ k < (r + 1) ^ k := Nat.lt_of_le_of_lt h1 hr.2
    have := lt_of_pow_lt h2
    omega
  obtain ⟨e, he⟩ : ∃ e, e = (L + k - 1) / k := ⟨_, rfl⟩
  have hstart := newton_start hAlt (by omega) he
  have hhalf := bl_half (L := L) hk
  rw [← he] at hhalf
  have hx0 : r < 2 ^ e := lt_of_pow_lt (Nat.lt_of_le_of_lt hr.1 hstart)
  have ei : ((L : Int) + k - 1) / k = (e : Int) := by
    rw [he, Int.natCast_ediv]
    congr 1
    omega
  refine xRF (jn g1 ei) ?_
  refine s_call (power_spec e c1 (by omega)) yM ?_
  rintro v c2 hc2 ⟨t2, rfl, ht2⟩
  refine xR ?_
  obtain ⟨j, rfl⟩ : ∃ j, k = j + 1 := ⟨k - 1, by omega⟩
  have ej : (((j + 1 : Nat) : Int) - 1) = (j : Int) := by omega
  have hj26 : j < 2 ^ 26 := by
    have : (2 : Nat) ^ 26 = 67108864 := by decide
    omega
  refine vwp_loop (fun m S => ∃ x tx, m = x ∧ r ≤ x ∧ x ≤ 2 ^ e ∧ Tk c S.c tx ∧ S.ρ 0 = nats t (digs 18446744073709551616 A0) ∧ S.ρ 1 = iv ((j + 1 : Nat) : Int) ∧ S.ρ 6 = nats tx (digs 18446744073709551616 x) ∧ S.σ = noBlk ∧ c1 ≤ S.c) (2 ^ e) ?_ ?_
  · refine ⟨2 ^ e, t2, rfl, ?_⟩
    refine xS ?_
    exact ⟨by omega, Nat.le_refl _, ht2.mono (by omega) (Nat.le_refl _), hc2⟩
  rintro m ⟨ρ2, σ, c3⟩ ⟨x, tx, hm', hrx, hxe, htx, h0, h1, h6, hσ, hc3⟩
  dsimp only at htx h0 h1 h6 hσ hc3
  subst hσ
  have hxl := lim_digs two64 x
  have vx := val_digs two64 x
  have hblx : bl x ≤ e + 1 := bl_le (Nat.lt_of_le_of_lt hxe (Nat.pow_lt_pow_right (by decide) (by omega)))
  have hnx : (digs 18446744073709551616 x).length ≤ 1048576 := digs_len_bl (by omega)
  have hqA : A0 / x ^ j ≤ A0 := Nat.div_le_self _ _
  have hqn : (digs 18446744073709551616 (A0 / x ^ j)).length ≤ 1048576 := Nat.le_trans (le_len two64 hqA) hna
  have hql := lim_digs two64 (A0 / x ^ j)
  have vq := val_digs two64 (A0 / x ^ j)
  refine vwp_block ?_
  refine v_cut2 (fun S => ∃ t9, S.ρ 0 = nats t (digs 18446744073709551616 A0) ∧ S.ρ 1 = iv ((j + 1 : Nat) : Int) ∧ S.ρ 6 = nats tx (digs 18446744073709551616 x) ∧ S.ρ 9 = nats t9 (digs 18446744073709551616 (A0 / x ^ j)) ∧ S.σ = noBlk ∧ c3 ≤ S.c) ?_ ?_
  · refine v_last ?_
    refine xSF (jn h6 (jn h1 ej)) ?_
    refine ⟨by omega, ?_⟩
    refine s_call (pow_spec tx _ j c3 hxl (by omega) (by omega)) (yMF h6) ?_
    rw [vx]
    rintro v c4 hc4 (⟨hb, t4, rfl, ht4⟩ | ⟨hb, rfl⟩)
    · have hpl := lim_digs two64 (x ^ j)
      have vp := val_digs two64 (x ^ j)
      have hpn : (digs 18446744073709551616 (x ^ j)).length ≤ 1048576 := digs_len_bl (by omega)
      have hp0 : 0 < x ^ j := Nat.pow_pos (by omega)
      refine xRF (jn h0 (jn h1 (jn h6 ej))) ?_
      refine s_call (quo_spec t t4 _ _ c4 hla hpl (by omega) (by omega)) (yMF h0) ?_
      rw [va, vp]
      rintro v c5 hc5 ⟨_, hq⟩
      rcases hq hp0 with ⟨_, t5, rfl, _⟩ | ⟨hbig, _⟩
      · refine xRF (jn h0 (jn h1 h6)) ?_
        exact ⟨t5, rfl, by omega⟩
      · have := bl_mono hqA
        omega
    · have hz : A0 / x ^ j = 0 := Nat.div_eq_of_lt (by
        have hp0 : 0 < x ^ j := Nat.pow_pos (by omega)
        rcases Nat.lt_or_ge A0 (x ^ j) with g | g
        · exact g
        · have := bl_mono g
          omega)
      rw [hz]
      refine xRF (jn h0 (jn h1 (jn h6 ej))) ?_
      refine s_call (quo_spec t .nil _ [] c4 hla Lim.nil (by omega) (by simp)) (yMrF h0) ?_
      rintro v c5 hc5 ⟨hq, _⟩
      have := hq rfl
      subst this
      refine xRF (jn h0 (jn h1 h6)) ?_
      exact ⟨.nil, rfl, by omega⟩
  rintro ⟨ρ3, σ, c4⟩ ⟨t9, h0, h1, h6, h9, hσ, hc4⟩
  dsimp only at h0 h1 h6 h9 hσ hc4
  subst hσ
  have hx0 : 0 < x := by omega
  have hq2 : A0 / x ^ j < 2 ^ (L - 1) := by
    have h1 : 2 ≤ x ^ j := by
      have : x ^ 1 ≤ x ^ j := Nat.pow_le_pow_right hx0 (by omega)
      rw [Nat.pow_one] at this
      omega
    have h2 : A0 / x ^ j ≤ A0 / 2 := Nat.div_le_div_left h1 (by decide)
    have h3 : A0 / 2 < 2 ^ (L - 1) := by
      rw [Nat.div_lt_iff_lt_mul (by decide), ← Nat.pow_succ, show (L - 1).succ = L by omega]
      exact hAlt
    omega
  obtain ⟨em, hem1, hem2, hem3⟩ : ∃ em, em < 67108864 ∧ e + 26 ≤ em ∧ L - 1 ≤ em := by
    rcases Nat.le_total (e + 26) (L - 1) with h | h
    · exact ⟨L - 1, by omega, h, Nat.le_refl _⟩
    · exact ⟨e + 26, by omega, Nat.le_refl _, h⟩
  have hs1 : x * j < 2 ^ em := Nat.lt_of_lt_of_le (bl_prod hxe hj26) (Nat.pow_le_pow_right (by decide) hem2)
  have hs2 : A0 / x ^ j < 2 ^ em := Nat.lt_of_lt_of_le hq2 (Nat.pow_le_pow_right (by decide) hem3)
  have hs3 := bl_sum hs1 hs2
  have hb1 : bl (x * j) ≤ em := bl_le hs1
  have hb2 : bl (x * j + A0 / x ^ j) ≤ em + 1 := bl_le hs3
  have hb3 : bl ((x * j + A0 / x ^ j) / (j + 1)) ≤ em + 1 := Nat.le_trans (bl_mono (Nat.div_le_self _ _)) hb2
  have hge := newton_ge (j := j) hr.1 hx0
  have hstop := newton_stop (A := A0) (j := j) hx0
  have ejt : (j : Int).toNat = j := by omega
  have ekt : (((j + 1 : Nat) : Int)).toNat = j + 1 := by omega
  refine xRF (jn h0 (jn h1 (jn h6 (jn h9 (jn ej ejt))))) ?_
  refine s_call (times_spec tx _ j c4 hxl (by omega) (by omega)) (yMF h6) ?_
  rw [vx]
  rintro v c5 hc5 (⟨hb, t5, rfl, ht5⟩ | ⟨hb, rfl⟩)
  rotate_left
  · omega
  have hml := lim_digs two64 (x * j)
  have vmx := val_digs two64 (x * j)
  have hmn : (digs 18446744073709551616 (x * j)).length ≤ 1048576 := digs_len_bl (by omega)
  refine xRF (jn h0 (jn h1 (jn h6 h9))) ?_
  refine s_call (add_spec t5 t9 _ _ c5 hml hql (by omega) (by omega)) (yMF h9) ?_
  rw [vmx, vq]
  rintro v c6 hc6 (⟨hb, t6, rfl, ht6⟩ | ⟨hb, rfl⟩)
  rotate_left
  · omega
  have hsl := lim_digs two64 (x * j + A0 / x ^ j)
  have vs := val_digs two64 (x * j + A0 / x ^ j)
  have hsn : (digs 18446744073709551616 (x * j + A0 / x ^ j)).length ≤ 1048576 := digs_len_bl (by omega)
  refine xRF (jn h0 (jn h1 (jn h6 (jn h9 ekt)))) ?_
  refine s_call (through_spec t6 _ (j + 1) c6 hsl (by omega) (by omega)) (yMF h1) ?_
  rw [vs]
  rintro v c7 hc7 ⟨_, hth, _⟩
  obtain ⟨t7, rfl, ht7⟩ := hth (by omega) (by omega)
  obtain ⟨y, hy⟩ : ∃ y, y = (x * j + A0 / x ^ j) / (j + 1) := ⟨_, rfl⟩
  rw [← hy] at hge hstop hb3 ⊢
  have hyl := lim_digs two64 y
  have vy := val_digs two64 y
  have hyn : (digs 18446744073709551616 y).length ≤ 1048576 := digs_len_bl (by omega)
  refine xRF (jn h0 (jn h1 (jn h6 h9))) ?_
  refine s_call (compare_spec t7 tx _ _ c7 hyl hxl (by omega) (by omega)) (yMF h6) ?_
  rintro v c8 hc8 rfl
  rw [vy, vx]
  have hcmp : 0 ≤ cmpI y x ↔ x ≤ y := by unfold cmpI; split <;> (try split) <;> omega
  by_cases g : 0 ≤ cmpI y x
  · refine xRF (jn h0 (jn h1 (jn h6 (jn h9 g)))) ?_
    rw [hcmp] at g
    refine ⟨x, ⟨tx, rfl, htx.mono (Nat.le_refl _) (by omega)⟩, hstop g, ?_⟩
    exact Nat.lt_of_lt_of_le hr.2 (Nat.pow_le_pow_left (by omega) _)
  · refine xRF (jn h0 (jn h1 (jn h6 (jn h9 g)))) ?_
    rw [hcmp] at g
    refine ⟨y, by omega, y, t7, ?_⟩
    (repeat' apply And.intro) <;> first | rfl | omega | assumption | exact hge | exact ht7.mono (by omega) (by omega)

def RootR (c c' A0 k : Nat) (r : V) : Prop := (bl A0 ≤ 67108864 ∧ ∃ x t1 t2, IsRoot A0 k x ∧ r = .tup [nats t1 (digs 18446744073709551616 x), nats t2 (digs 18446744073709551616 (A0 - x ^ k)), iv 0] ∧ Tk c c' t1 ∧ Tk c c' t2) ∨ (67108864 < bl A0 ∧ r = .tup [nil1, nil1, iv 3])

def Apt (t u : Tok) : Prop := ∀ i, t = .id i → u = .id i → False
theorem Apt.nil {t : Tok} : Apt t .nil := fun i _ h => by cases h
theorem Apt.of {a b c d : Nat} {t u : Tok} (ht : Tk a b t) (hu : Tk c d u) (h : b ≤ c) : Apt t u := fun i e e' => by
  rcases ht with rfl | ⟨j, rfl, h1, h2⟩
  · cases e
  · rcases hu with rfl | ⟨k, rfl, h3, h4⟩
    · cases e'
    · cases e; cases e'; omega
def RootS (c c' A0 k : Nat) (r : V) : Prop := (bl A0 ≤ 67108864 ∧ ∃ x t1 t2, IsRoot A0 k x ∧ r = .tup [nats t1 (digs 18446744073709551616 x), nats t2 (digs 18446744073709551616 (A0 - x ^ k)), iv 0] ∧ Tk c c' t1 ∧ Tk c c' t2 ∧ Apt t1 t2) ∨ (67108864 < bl A0 ∧ r = .tup [nil1, nil1, iv 3])
theorem RootS.R {c c' A0 k : Nat} {r : V} (h : RootS c c' A0 k r) : RootR c c' A0 k r := by
  rcases h with ⟨hb, x, t1, t2, hx, hr, h1, h2, _⟩ | h
  · exact .inl ⟨hb, x, t1, t2, hx, hr, h1, h2⟩
  · exact .inr h

theorem root_specS (t : Tok) (a : List Nat) (k : Int) (c : Nat) (ha : Lim 18446744073709551616 a) (hna : a.length ≤ 1099511627776) (hk : k < 9223372036854775808) :
    VSpec Try.prog F.roots_Root c [nats t a, iv k] (fun r c' => (k < 1 → r = .tup [nil1, nil1, iv 40]) ∧ (1 ≤ k → RootS c c' (val 18446744073709551616 a) k.toNat r)) := by
  refine sG hm G.roots_Root ?_
  unfold C.roots_Root R.roots_Root cD
  by_cases g0 : k < 1
  · refine xRF g0 ?_
    exact ⟨fun _ => trivial, fun h => absurd h (by omega)⟩
  obtain ⟨k, rfl⟩ : ∃ j : Nat, k = (j : Int) := ⟨k.toNat, by omega⟩
  have hk1 : 1 ≤ k := by omega
  have e1 : ((k : Int)).toNat = k := by omega
  rw [e1]
  suffices h : VWP Try.prog c C.roots_Root (retQ R.roots_Root fun r c' => c ≤ c' ∧ RootS c c' (val 18446744073709551616 a) k r) ⟨Go.VM.start [nats t a, iv (k : Int)], noBlk, c⟩ by
    refine vwp_mono h ?_
    intro e S h
    cases e with
    | exit j => unfold retQ at h; exact h.elim
    | normal => rw [retQ_normal] at h ⊢; obtain ⟨r, h1, h2, h3⟩ := h; exact ⟨r, h1, h2, fun h => absurd h (by omega), fun _ => h3⟩
    | ret => rw [retQ_ret] at h ⊢; obtain ⟨r, h1, h2, h3⟩ := h; exact ⟨r, h1, h2, fun h => absurd h (by omega), fun _ => h3⟩
  unfold C.roots_Root R.roots_Root
  refine xRF g0 ?_
  refine s_call (fits_spec t a c ha hna) yM ?_
  rintro v c1 hc1 (⟨hb, t1, rfl, ht1⟩ | ⟨hb, rfl⟩)
  rotate_left
  · have g3 : ¬ (3 : Int) = 0 := by omega
    refine xRF g3 ?_
    exact .inr ⟨hb, rfl⟩
  obtain ⟨A0, hA0⟩ : ∃ A0, A0 = val 18446744073709551616 a := ⟨_, rfl⟩
  rw [← hA0] at hb ⊢
  have hla := lim_digs two64 A0
  have va := val_digs two64 A0
  have hnA : (digs 18446744073709551616 A0).length ≤ 1048576 := digs_len_bl (by omega)
  by_cases g1 : (k : Int) = 1
  · refine xRF g1 ?_
    obtain rfl : k = 1 := by omega
    refine .inl ⟨hb, A0, t1, .nil, ⟨by rw [Nat.pow_one]; exact Nat.le_refl _, by rw [Nat.pow_one]; omega⟩, ?_, ht1.mono (by omega) (by omega), .inl rfl, Apt.nil⟩
    rw [Nat.pow_one, Nat.sub_self]
    rfl
  refine xRF g1 ?_
  refine s_call (length_spec t1 _ c1 hla (by omega)) yM ?_
  rintro v c2 hc2 rfl
  rw [va]
  by_cases g2 : (bl A0 : Int) = 0
  · have hz : A0 = 0 := bl_eq_zero.1 (by omega)
    refine xRF (jn g1 g2) ?_
    refine .inl ⟨hb, 0, t1, .nil, ⟨by rw [Nat.zero_pow (by omega)]; exact Nat.zero_le _, by rw [hz, Nat.zero_add, Nat.one_pow]; decide⟩, ?_, ht1.mono (by omega) (by omega), .inl rfl, Apt.nil⟩
    rw [hz, Nat.zero_sub]
    rfl
  have hpos : 0 < A0 := by
    rcases Nat.eq_zero_or_pos A0 with h | h
    · exact absurd (by rw [h]; rfl) g2
    · exact h
  refine xRF (jn g1 g2) ?_
  refine s_call (newton_spec t1 A0 k c2 hpos hb (by omega) (by omega)) yM ?_
  rintro v c3 hc3 ⟨x, ⟨t3, rfl, ht3⟩, hx⟩
  have hxl := lim_digs two64 x
  have vx := val_digs two64 x
  have hxA : x ≤ A0 := by
    have h1 : x ^ 1 ≤ x ^ k ∨ x = 0 := by
      rcases Nat.eq_zero_or_pos x with h | h
      · exact .inr h
      · exact .inl (Nat.pow_le_pow_right h hk1)
    rw [Nat.pow_one] at h1
    have := hx.1
    omega
  have hnx : (digs 18446744073709551616 x).length ≤ 1048576 := Nat.le_trans (le_len two64 hxA) hnA
  refine xRF (jn g1 g2) ?_
  refine s_call (pow_spec t3 _ k c3 hxl (by omega) (by omega)) yM ?_
  rw [vx]
  have hbp := bl_mono hx.1
  rintro v c4 hc4 (⟨hb4, t4, rfl, ht4⟩ | ⟨hb4, rfl⟩)
  rotate_left
  · omega
  have hpl := lim_digs two64 (x ^ k)
  have vp := val_digs two64 (x ^ k)
  have hnp : (digs 18446744073709551616 (x ^ k)).length ≤ 1048576 := digs_len_bl (by omega)
  refine xRF (jn g1 g2) ?_
  refine s_call (less_root t1 t4 _ _ c4 hla hpl (by omega) (by omega) (by rw [va, vp]; exact hx.1) (by rw [va]; exact hb)) yM ?_
  rw [va, vp]
  rintro v c5 hc5 ⟨t5, rfl, ht5⟩
  refine xR ?_
  exact .inl ⟨hb, x, t3, t5, hx, rfl, ht3.mono (by omega) (by omega), ht5.mono (by omega) (by omega), Apt.of ht3 ht5 (by omega)⟩

theorem root_spec (t : Tok) (a : List Nat) (k : Int) (c : Nat) (ha : Lim 18446744073709551616 a) (hna : a.length ≤ 1099511627776) (hk : k < 9223372036854775808) :
    VSpec Try.prog F.roots_Root c [nats t a, iv k] (fun r c' => (k < 1 → r = .tup [nil1, nil1, iv 40]) ∧ (1 ≤ k → RootR c c' (val 18446744073709551616 a) k.toNat r)) :=
  (root_specS t a k c ha hna hk).mono fun r c' h => ⟨h.1, fun h1 => (h.2 h1).R⟩

theorem two32 : 2 ≤ 4294967296 := by decide

section
variable {P : Program} {dr : Bool} {c0 : Nat} {ρ : Nat → V} {σ : Nat → Option Blk} {c i : Nat} {r : List VO} {K : VS → Prop}
theorem s_bsl2 {x y : X} {n m : Nat} (h : x.ev ρ = nv n) (h' : y.ev ρ = nv m) (hk : wps P dr c0 r ⟨upd ρ i (nats (.id c) [n, m]), σ, c + 1⟩ K) : wps P dr c0 (⟨some i, .bsl true 1 2 [.int .u64 0] [(0, (1, x)), (1, (1, y))], none⟩ :: r) ⟨ρ, σ, c⟩ K := by
  refine s_eff rfl (by intros; exact fun h => by cases h) (by intros; exact fun h => by cases h) ⟨_, _, _, none, .bsl (cs := [nv n, nv m]) ?_, hk⟩
  simp only [partsOf, List.map, h, h']
  rfl
theorem s_appfit {x y : X} {t n cap : Nat} {w rest ys : List Nat} {u : Tok} (hx : x.ev ρ = .buf t 0 n (some cap) 1) (ht : σ t = nblk (w ++ rest)) (hw : w.length = n) (hy : y.ev ρ = nats u ys) (h1 : n + ys.length ≤ cap) (h2 : ys.length ≤ rest.length)
    (hk : wps P dr c0 r ⟨upd ρ i (.buf t 0 (n + ys.length) (some cap) 1), supd σ t (nblk ((w ++ ys) ++ rest.drop ys.length)), c⟩ K) : wps P dr c0 (⟨some i, .app 1 8 [.int .u64 0] x y, none⟩ :: r) ⟨ρ, σ, c⟩ K := by
  have hc : vcells 1 σ (y.ev ρ) = some (ys.map nv) := by rw [hy]; cases u <;> rfl
  refine s_eff rfl (by intros; exact fun h => by cases h) (by intros; exact fun h => by cases h) ⟨_, _, _, none, .appFit (k := ys.length) hx ht hc (by simp) h1 (by simp; omega), ?_⟩
  have e : putCells ((w ++ rest).map nv) (n * 1) (ys.map nv) = ((w ++ ys) ++ rest.drop ys.length).map nv := by
    rw [Nat.mul_one, putCells_all _ _ _ (by simp; omega)]
    rw [← hw]
    simp [List.map_drop, List.drop_append]
  rw [e]
  exact hk
end

theorem norm32_spec (t : Tok) (l : List Nat) (c : Nat) (hl : Lim 4294967296 l) (hn : l.length ≤ 4398046511104) : VSpec Try.prog F.surdref01_norm c [nats t l] (fun r _ => r = nats t (digs 4294967296 (val 4294967296 l))) := by
  rw [← trim_digs two32 hl]
  refine sG hm G.surdref01_norm ?_
  unfold C.surdref01_norm R.surdref01_norm cD
  refine xR ?_
  refine v_loop (fun S => ∃ n : Nat, S.ρ 0 = nats t l ∧ S.ρ 3 = iv (n : Int) ∧ n ≤ l.length ∧ l.take n = trimL l ∧ S.σ = noBlk ∧ S.c = c) ?_ ?_
  · refine vwp_loop (fun n S => S.ρ 0 = nats t l ∧ S.ρ 3 = iv (n : Int) ∧ n ≤ l.length ∧ trimL (l.take n) = trimL l ∧ S.σ = noBlk ∧ S.c = c) l.length ?_ ?_
    · refine ⟨?_, ?_⟩
      · simp only [vm, ite_true, ite_false, eq_self, reduceIte, Nat.reduceEqDiff, Option.map]
      · simp only [vm, ite_true, ite_false, eq_self, reduceIte, Nat.reduceEqDiff, Option.map, List.take_length]
        exact yA
    rintro n ⟨ρ, σ, k⟩ ⟨h0, h3, hn2, ht, hσ, hk⟩
    dsimp only at h0 h3 hσ hk
    subst hσ hk
    rcases Nat.eq_zero_or_pos n with rfl | hp
    · have g : ¬ (0 : Int) < ((0 : Nat) : Int) := by omega
      refine xRF (jn h0 (jn h3 g)) ?_
      exact ⟨0, rfl, by omega, by rw [← ht]; rfl⟩
    · obtain ⟨i, rfl⟩ : ∃ i, n = i + 1 := ⟨n - 1, by omega⟩
      have g : (0 : Int) < ((i + 1 : Nat) : Int) := by omega
      have e1 : (((i + 1 : Nat) : Int) - 1) = (i : Int) := by omega
      have hts := take_snoc (l := l) (i := i) (by omega)
      rw [hts] at ht
      by_cases gz : l.getD i 0 = 0
      · rw [gz, trimL_zero] at ht
        refine xRF (jn h0 (jn h3 (jn g (jn e1 gz)))) ?_
        exact ⟨i, by omega, rfl, by omega, ht⟩
      · rw [trimL_pos _ _ gz] at ht
        refine xRF (jn h0 (jn h3 (jn g (jn e1 gz)))) ?_
        exact ⟨i + 1, rfl, by omega, by rw [hts]; exact ht⟩
  rintro ⟨ρ, σ, k⟩ ⟨n, h0, h3, hn2, ht, hσ, hk⟩
  dsimp only at h0 h3 hσ hk
  subst hσ hk
  refine xRF (jn h0 h3) ?_
  rw [ht]

theorem of_spec (t : Tok) (a : List Nat) (c : Nat) (ha : Lim 18446744073709551616 a) (hna : a.length ≤ 1099511627776) :
    VSpec Try.prog F.surdref01_Of c [nats t a] (fun r c' => ∃ i, r = nats (.id i) (digs 4294967296 (val 18446744073709551616 a)) ∧ c ≤ i ∧ i < c') := by
  refine sG hm G.surdref01_Of ?_
  unfold C.surdref01_Of R.surdref01_Of cD
  refine xR ?_
  refine s_mk (n := 0) (m := 2 * a.length) ySr ySr (by omega) (by omega) ?_
  refine xR ?_
  refine v_loop (fun S => ∃ w, w.length = 2 * a.length ∧ Lim 4294967296 w ∧ val 4294967296 w = val 18446744073709551616 a ∧ S.ρ 3 = .buf c 0 (2 * a.length) (some (2 * a.length)) 1 ∧ S.σ = supd noBlk c (nblk w) ∧ c + 1 ≤ S.c) ?_ ?_
  · refine vwp_loop (fun k S => ∃ i w, k = a.length - i ∧ i ≤ a.length ∧ w.length = 2 * i ∧ Lim 4294967296 w ∧ val 4294967296 w = val 18446744073709551616 (a.take i) ∧ S.ρ 10 = nats t a ∧ S.ρ 11 = iv a.length ∧ S.ρ 12 = iv i ∧ S.ρ 3 = .buf c 0 (2 * i) (some (2 * a.length)) 1 ∧ S.σ = supd noBlk c (nblk (w ++ List.replicate (2 * a.length - 2 * i) 0)) ∧ c + 1 ≤ S.c) a.length ?_ ?_
    · refine ⟨0, [], by omega, by omega, ?_⟩
      refine xS ?_
      (repeat' apply And.intro) <;> first | rfl | omega | assumption | exact Lim.nil | (simp [val]; done)
    rintro k ⟨ρ2, σ, c4⟩ ⟨i, w, hk, hi, hw, hlw, hinv, h10, h11, h12, h3, hσ, hc4⟩
    dsimp only at h10 h11 h12 h3 hσ hc4
    subst hσ
    by_cases g : (i : Int) < a.length
    · have hi' : i < a.length := by omega
      have hxi := ha.getD (i := i) (by decide)
      have hval := val_take (b := 18446744073709551616) hi'
      refine xRF (jn h10 (jn h11 (jn h12 (jn h3 g)))) ?_
      have hq : a.getD i 0 / 4294967296 % 18446744073709551616 = a.getD i 0 / 4294967296 := Nat.mod_eq_of_lt (by omega)
      refine s_bsl2 (n := a.getD i 0 % 4294967296) (m := a.getD i 0 / 4294967296) yS (ySF hq) ?_
      refine s_appfit (t := c) (n := 2 * i) (cap := 2 * a.length) (w := w) (rest := List.replicate (2 * a.length - 2 * i) 0) (u := .id c4) (ys := [a.getD i 0 % 4294967296, a.getD i 0 / 4294967296]) yS yS hw yS (by simp; omega) (by simp; omega) ?_
      have hdrop : (List.replicate (2 * a.length - 2 * i) 0).drop [a.getD i 0 % 4294967296, a.getD i 0 / 4294967296].length = List.replicate (2 * a.length - 2 * (i + 1)) 0 := by
        rw [List.drop_replicate]; congr 1 <;> first | omega | (simp; done) | (simp; omega)
      have hlen2 : 2 * i + [a.getD i 0 % 4294967296, a.getD i 0 / 4294967296].length = 2 * (i + 1) := by simp; omega
      rw [hdrop, hlen2]
      refine xRF (jn h10 (jn h11 (jn h12 h3))) ?_
      have hv : val 4294967296 (w ++ [a.getD i 0 % 4294967296, a.getD i 0 / 4294967296]) = val 18446744073709551616 (a.take (i + 1)) := by
        rw [val_append, hw, hinv, hval, pow32, pow64, show 32 * (2 * i) = 64 * i by omega]
        congr 1
        congr 1
        simp only [val]
        omega
      refine ⟨a.length - (i + 1), by omega, i + 1, w ++ [a.getD i 0 % 4294967296, a.getD i 0 / 4294967296], ?_⟩
      (repeat' apply And.intro) <;> first | rfl | omega | assumption | (simp [hw]; done) | (simp [hw]; omega) | exact hlw.append (.cons (Nat.mod_lt _ (by decide)) (.cons (by omega) .nil)) | exact hv
    · have hi' : i = a.length := by omega
      subst hi'
      refine xRF (jn h10 (jn h11 (jn h12 (jn h3 g)))) ?_
      rw [List.take_length] at hinv
      refine ⟨w, ?_⟩
      have e0 : w ++ List.replicate (2 * a.length - 2 * a.length) 0 = w := by simp
      rw [e0]
      exact yA
  rintro ⟨ρ3, σ, c5⟩ ⟨w, hw, hlw, hvw, h3, hσ, hc5⟩
  dsimp only at h3 hσ hc5
  subst hσ
  refine v_freeze 3 (t := c) (off := 0) (n := 2 * a.length) (cap := some (2 * a.length)) (l := w) (ySF h3) yS (by omega) (by omega) ?_
  rw [List.drop_zero, show w.take (2 * a.length) = w from List.take_of_length_le (by omega)]
  refine xR ?_
  refine s_call (norm32_spec (.id c) w c5 hlw (by omega)) yM ?_
  rintro v c6 hc6 rfl
  rw [hvw]
  refine xR ?_
  exact ⟨c, rfl, by omega, by omega⟩

theorem int_spec (n c : Nat) (hn : n < 9223372036854775808) : VSpec Try.prog F.surdref01_Int c [iv n] (fun r c' => ∃ i, r = nats (.id i) (digs 4294967296 n) ∧ c ≤ i ∧ i < c') := by
  refine sG hm G.surdref01_Int ?_
  unfold C.surdref01_Int R.surdref01_Int cD
  refine xR ?_
  refine s_bsl1 (n := n) yS ?_
  have hl : Lim 18446744073709551616 [n] := .cons (by omega) .nil
  refine s_call (of_spec (.id c) [n] (c + 1) hl (by simp)) yM ?_
  rintro v c1 hc1 ⟨i, rfl, hi1, hi2⟩
  have e : val 18446744073709551616 [n] = n := by simp [val]
  rw [e]
  refine xR ?_
  exact ⟨i, rfl, by omega, by omega⟩
theorem num_spec (n : Int) (c : Nat) : VSpec Try.prog F.surdlaw04_num c [iv n] (fun r _ => r = iv n) := by
  refine sG hm G.surdlaw04_num ?_
  unfold C.surdlaw04_num R.surdlaw04_num cD
  refine xR ?_
  exact Nat.le_refl _

theorem bl_div2 {v : Nat} (h : 0 < v) : bl v = bl (v / 2) + 1 := by
  rcases Nat.lt_or_ge v 2 with g | g
  · have : v = 1 := by omega
    subst this
    rfl
  · have := bl_shift (x := v) (k := 1) (by simpa using g)
    rw [Nat.pow_one] at this
    omega

theorem len_spec (t : Tok) (n c : Nat) (hn : (digs 4294967296 n).length ≤ 4398046511104) : VSpec Try.prog F.surdref01_Num_Len c [nats t (digs 4294967296 n)] (fun r _ => r = iv (bl n)) := by
  refine sG hm G.surdref01_Num_Len ?_
  unfold C.surdref01_Num_Len R.surdref01_Num_Len cD
  by_cases g : digs 4294967296 n = []
  · have hz := (digs_eq_nil two32).1 g
    rw [g]
    have e : (([] : List Nat).length : Int) = 0 := rfl
    refine xRF e ?_
    rw [hz]; rfl
  obtain ⟨m, x, hmx⟩ := snoc_of_ne g
  obtain ⟨hx0, hx1, hbl⟩ := bl_digs32 hmx
  rw [hmx] at hn ⊢
  have hlen : (m ++ [x]).length = m.length + 1 := by simp
  rw [hlen] at hn
  have e0 : ¬ ((m.length + 1 : Nat) : Int) = 0 := by omega
  have e1 : ((m.length + 1 : Nat) : Int) - 1 = (m.length : Int) := by omega
  have hg : (m ++ [x]).getD m.length 0 = x := by simp
  rw [hbl]
  refine xRF (jn hlen (jn e0 (jn e1 hg))) ?_
  refine v_loop (fun S => S.ρ 3 = iv ((32 * m.length + bl x : Nat) : Int) ∧ S.σ = noBlk ∧ S.c = c) ?_ ?_
  · refine vwp_loop (fun v S => ∃ k, bl x = k + bl v ∧ v ≤ x ∧ S.ρ 3 = iv ((32 * m.length + k : Nat) : Int) ∧ S.ρ 4 = nv v ∧ S.σ = noBlk ∧ S.c = c) x ?_ ?_
    · refine ⟨0, by omega, Nat.le_refl _, ?_⟩
      refine xS ?_
      (repeat' apply And.intro) <;> first | rfl | omega | assumption | (congr 1; omega)
    rintro v ⟨ρ, σ, c1⟩ ⟨k, hk, hvx, h3, h4, hσ, hc1⟩
    dsimp only at h3 h4 hσ hc1
    subst hσ hc1
    have hbx : bl x ≤ 32 := bl_le hx1
    rcases Nat.eq_zero_or_pos v with rfl | hv
    · have g1 : ¬ 0 < 0 := by omega
      refine xRF (jn h3 (jn h4 g1)) ?_
      rw [bl_zero] at hk
      rw [hk]; rfl
    · have hd := bl_div2 hv
      have e2 : ((32 * m.length + k : Nat) : Int) + 1 = ((32 * m.length + (k + 1) : Nat) : Int) := by omega
      have e3 : v / 2 % 18446744073709551616 = v / 2 := Nat.mod_eq_of_lt (by omega)
      refine xRF (jn h3 (jn h4 (jn hv (jn e2 e3)))) ?_
      refine ⟨v / 2, by omega, k + 1, by omega, by omega, ?_⟩
      exact yA
  rintro ⟨ρ, σ, c1⟩ ⟨h3, hσ, hc1⟩
  dsimp only at h3 hσ hc1
  subst hσ hc1
  refine xRF h3 ?_
  exact Nat.le_refl _

theorem cmp_spec (t u : Tok) (m n c : Nat) (hm1 : (digs 4294967296 m).length ≤ 4398046511104) (hn1 : (digs 4294967296 n).length ≤ 4398046511104) : VSpec Try.prog F.surdref01_Cmp c [nats t (digs 4294967296 m), nats u (digs 4294967296 n)] (fun r _ => r = iv (cmpI m n)) := by
  refine sG hm G.surdref01_Cmp ?_
  unfold C.surdref01_Cmp R.surdref01_Cmp cD
  have hda := lim_digs two32 m
  have hdb := lim_digs two32 n
  have va := val_digs two32 m
  have vb := val_digs two32 n
  have hlt := lt_of_len two32 (m := m) (n := n)
  have hgt := lt_of_len two32 (m := n) (n := m)
  generalize digs 4294967296 m = x at *
  generalize digs 4294967296 n = y at *
  by_cases g : (x.length : Int) = y.length
  rotate_left
  · by_cases g2 : (x.length : Int) < y.length
    · refine xRF (jn g g2) ?_
      rw [cmpI, if_pos (hlt (by omega))]
    · refine xRF (jn g g2) ?_
      have := hgt (by omega)
      rw [cmpI, if_neg (by omega), if_neg (by omega)]
  have hxy : x.length = y.length := by omega
  refine xRF g ?_
  refine v_loopR (fun S => val 4294967296 x = val 4294967296 y ∧ S.σ = noBlk ∧ S.c = c) ?_ ?_
  · refine vwp_loop (fun k S => S.ρ 0 = nats t x ∧ S.ρ 1 = nats u y ∧ S.ρ 5 = iv ((k : Int) - 1) ∧ k ≤ x.length ∧ val 4294967296 (x.drop k) = val 4294967296 (y.drop k) ∧ S.σ = noBlk ∧ S.c = c) x.length ?_ ?_
    · rw [List.drop_of_length_le (Nat.le_refl _), hxy, List.drop_of_length_le (Nat.le_refl _)]
      refine xSF g ?_
      exact yA
    rintro k ⟨ρ, σ, c3⟩ ⟨h0, h1, h5, hk, hv, hσ, hc3⟩
    dsimp only at h0 h1 h5 hσ hc3
    subst hσ hc3
    rcases Nat.eq_zero_or_pos k with rfl | hp
    · have g1 : ¬ (0 : Int) ≤ ((0 : Nat) : Int) - 1 := by omega
      refine xRF (jn h0 (jn h1 (jn h5 g1))) ?_
      rw [List.drop_zero, List.drop_zero] at hv
      exact hv
    · obtain ⟨i, rfl⟩ : ∃ i, k = i + 1 := ⟨k - 1, by omega⟩
      have e1 : (((i + 1 : Nat) : Int) - 1) = (i : Int) := by omega
      rw [e1] at h5
      have g1 : (0 : Int) ≤ (i : Int) := by omega
      by_cases g4 : x.getD i 0 < y.getD i 0
      · have := val_lt_of_top two32 hda hdb (i := i) (by omega) (by omega) hxy hv g4
        refine xRF (jn h0 (jn h1 (jn h5 (jn g1 g4)))) ?_
        rw [cmpI, if_pos (by omega)]
      by_cases g5 : y.getD i 0 < x.getD i 0
      · have := val_lt_of_top two32 hdb hda (i := i) (by omega) (by omega) hxy.symm hv.symm g5
        refine xRF (jn h0 (jn h1 (jn h5 (jn g1 (jn g4 g5))))) ?_
        rw [cmpI, if_neg (by omega), if_neg (by omega)]
      · have e2 := val_drop (b := 4294967296) (l := x) (i := i) (by omega)
        have e3 := val_drop (b := 4294967296) (l := y) (i := i) (by omega)
        have e4 : x.getD i 0 = y.getD i 0 := by omega
        have hv2 : val 4294967296 (x.drop i) = val 4294967296 (y.drop i) := by rw [e2, e3, e4, hv]
        refine xRF (jn h0 (jn h1 (jn h5 (jn g1 (jn g4 g5))))) ?_
        refine ⟨i, by omega, ?_⟩
        (repeat' apply And.intro) <;> first | rfl | omega | assumption | exact hv2
  rintro ⟨ρ, σ, c1⟩ ⟨hv, hσ, hc1⟩
  dsimp only at hσ hc1
  subst hσ hc1
  refine xR ?_
  have : m = n := by omega
  rw [cmpI, if_neg (by omega), if_pos this]
end Go.Proofs.Ythjnmfieicniaaa
namespace Go.VM

section
variable {α : Type}
def fN (n : Nat) (k : Nat → α) : α := match n with | 0 => k 0 | m + 1 => k (Nat.succ m)
theorem fN_eq (n : Nat) (k : Nat → α) : fN n k = k n := by cases n <;> rfl
def fI (n : Int) (k : Int → α) : α := match n with | .ofNat m => fN m fun m => k (.ofNat m) | .negSucc m => fN m fun m => k (.negSucc m)
theorem fI_eq (n : Int) (k : Int → α) : fI n k = k n := by cases n <;> simp only [fI, fN_eq]
def fU (v : Value) (k : Value → α) : α := match v with
  | .int t n => fI n fun n => k (.int t n)
  | .bool true => k (.bool true)
  | .bool false => k (.bool false)
  | v => k v
theorem fU_eq (v : Value) (k : Value → α) : fU v k = k v := by
  unfold fU
  split <;> simp only [fI_eq]
def fL {β : Type} (l : List β) (k : List β → α) : α := match l with | [] => k [] | x :: xs => fL xs fun xs => k (x :: xs)
theorem fL_eq {β : Type} (l : List β) (k : List β → α) : fL l k = k l := by
  induction l generalizing k with
  | nil => rfl
  | cons x xs ih => rw [fL, ih]
def fO (o : Option Nat) (k : Option Nat → α) : α := match o with | none => k none | some n => fN n fun n => k (some n)
theorem fO_eq (o : Option Nat) (k : Option Nat → α) : fO o k = k o := by cases o <;> simp only [fO, fN_eq]
def fT (t : Tok) (k : Tok → α) : α := match t with | .nil => k .nil | .unk => k .unk | .id n => fN n fun n => k (.id n) | .sub n => fN n fun n => k (.sub n)
theorem fT_eq (t : Tok) (k : Tok → α) : fT t k = k t := by cases t <;> simp only [fT, fN_eq]
def fV (v : V) (k : V → α) : α := match v with
  | .any => k .any
  | .lit v => fU v fun v => k (.lit v)
  | .sl t sz l => fT t fun t => fN sz fun sz => fL l fun l => k (.sl t sz l)
  | .buf t off n cap sz => fN t fun t => fN off fun off => fN n fun n => fO cap fun cap => fN sz fun sz => k (.buf t off n cap sz)
  | .ptr t off => fN t fun t => fN off fun off => k (.ptr t off)
  | .gptr t off => fN t fun t => fN off fun off => k (.gptr t off)
  | .eptr l i => fL l fun l => fN i fun i => k (.eptr l i)
  | .agg l => fL l fun l => k (.agg l)
  | .tup l => fL l fun l => k (.tup l)
theorem fV_eq (v : V) (k : V → α) : fV v k = k v := by cases v <;> simp only [fV, fU_eq, fT_eq, fN_eq, fL_eq, fO_eq]
end

def nth (l : List V) (i : Nat) : V := match l, i with | [], _ => .any | x :: _, 0 => x | _ :: xs, i + 1 => nth xs i
theorem nth_getD (l : List V) (i : Nat) : nth l i = l.getD i .any := by
  induction l generalizing i with
  | nil => rfl
  | cons x xs ih => cases i with
    | zero => rfl
    | succ i => rw [nth, ih]; rfl
theorem start_nth (l : List V) : start l = nth l := by funext i; rw [nth_getD]; rfl
theorem nth_append_any (l : List V) (n : Nat) : nth (l ++ List.replicate n .any) = nth l := by
  funext i
  rw [nth_getD, nth_getD, List.getD_eq_getElem?_getD, List.getD_eq_getElem?_getD, List.getElem?_append]
  split
  · rfl
  · rename_i h
    rw [List.getElem?_eq_none (Nat.le_of_not_lt h), List.getElem?_replicate]
    split <;> rfl
def setR {β : Type} (l : List V) (i : Nat) (v : V) (k : List V → Option β) : Option β := match l, i with
  | [], _ => none
  | _ :: xs, 0 => k (v :: xs)
  | x :: xs, i + 1 => setR xs i v fun xs => k (x :: xs)
theorem setR_some {β : Type} {l : List V} {i : Nat} {v : V} {k : List V → Option β} {b : β} (h : setR l i v k = some b) : ∃ l', k l' = some b ∧ nth l' = upd (nth l) i v := by
  induction l generalizing i k with
  | nil => cases h
  | cons x xs ih =>
    cases i with
    | zero =>
      refine ⟨_, h, ?_⟩
      funext j
      cases j with
      | zero => rfl
      | succ j => rfl
    | succ i =>
      obtain ⟨l', h1, h2⟩ := ih h
      refine ⟨x :: l', h1, ?_⟩
      funext j
      cases j with
      | zero => rfl
      | succ j =>
        rw [nth, h2]
        simp [upd, nth]

abbrev BL := List (Nat × Blk)
def lookB (l : BL) (t : Nat) : Option Blk := match l with | [] => none | p :: r => if p.1 = t then some p.2 else lookB r t
def putB (l : BL) (t : Nat) (b : Blk) : BL := match l with | [] => [(t, b)] | p :: r => if p.1 = t then (t, b) :: r else p :: putB r t b
theorem lookB_nil : lookB [] = noBlk := rfl
theorem lookB_put (l : BL) (t : Nat) (b : Blk) : lookB (putB l t b) = supd (lookB l) t (some b) := by
  funext u
  induction l with
  | nil => simp only [putB, lookB, supd]; by_cases e : t = u <;> simp [e, eq_comm]
  | cons p r ih =>
    obtain ⟨t', b'⟩ := p
    simp only [putB]
    by_cases e : t' = t
    · subst e
      simp only [if_true, lookB, supd]
      by_cases e : t' = u
      · simp [e]
      · simp [e, Ne.symm e]
    · simp only [e, if_false, lookB, ih, supd]
      by_cases e1 : t' = u
      · subst e1; simp [e]
      · simp [e1]
def keepB (p : Nat → Bool) (l : BL) : BL := match l with | [] => [] | q :: r => if p q.1 = true then q :: keepB p r else keepB p r
theorem lookB_keep (p : Nat → Bool) (l : BL) (t : Nat) : lookB (keepB p l) t = if p t = true then lookB l t else none := by
  induction l with
  | nil => simp [keepB, lookB]
  | cons q r ih =>
    simp only [keepB]
    by_cases h : p q.1 = true
    · simp only [h, if_true, lookB, ih]
      by_cases e : q.1 = t
      · subst e; simp [h]
      · simp [e]
    · simp only [h, lookB]
      by_cases e : q.1 = t
      · subst e; simp [ih, h]
      · simp [e, ih]
theorem lookB_append (l r : BL) (t : Nat) : lookB (l ++ r) t = match lookB l t with | some b => some b | none => lookB r t := by
  induction l with
  | nil => rfl
  | cons q l ih =>
    simp only [List.cons_append, lookB]
    by_cases e : q.1 = t
    · simp [e]
    · simp [e, ih]

structure XS where
  r : List V
  s : BL
  c : Nat
def XS.vs (S : XS) : VS := ⟨nth S.r, lookB S.s, S.c⟩

structure XEff where
  v : V
  s : BL
  c : Nat
  k : KT

def flatB (s : BL) : Bool := match s with | [] => true | p :: r => if p.2.cells.all V.flat = true then flatB r else false
theorem flat_kill {x : V} (t : Nat) (h : x.flat = true) : killV t x = x := by
  cases x <;> first | rfl | cases h
theorem flat_killL {l : List V} (t : Nat) (h : l.all V.flat = true) : l.map (killV t) = l := by
  refine (List.map_congr_left fun x hx => ?_).trans (List.map_id _)
  exact flat_kill t (List.all_eq_true.1 h x hx)
theorem flat_solid {l : List V} (h : l.all V.flat = true) : l.map V.solid = l := by
  refine (List.map_congr_left fun x hx => ?_).trans (List.map_id _)
  unfold V.solid
  rw [if_pos (List.all_eq_true.1 h x hx)]
  rfl
theorem flatB_look {s : BL} (h : flatB s = true) {t : Nat} {b : Blk} (hb : lookB s t = some b) : b.cells.all V.flat = true := by
  induction s with
  | nil => cases hb
  | cons p r ih =>
    simp only [flatB] at h
    split at h
    · rename_i hp
      simp only [lookB] at hb
      split at hb
      · cases hb; exact hp
      · exact ih h hb
    · cases h
theorem flatB_kill {s : BL} (h : flatB s = true) (t : Nat) : killσ t (lookB s) = lookB s := by
  funext u
  unfold killσ
  cases hb : lookB s u with
  | none => rfl
  | some b => simp only [Option.map]; rw [flat_killL t (flatB_look h hb)]
theorem all_take {l : List V} (n : Nat) (h : l.all V.flat = true) : (l.take n).all V.flat = true := List.all_eq_true.2 fun x hx => List.all_eq_true.1 h x (List.mem_of_mem_take hx)
theorem all_app {l r : List V} (h : l.all V.flat = true) (h2 : r.all V.flat = true) : (l ++ r).all V.flat = true := by rw [List.all_append, h, h2]; rfl
def xstore (s : BL) (n : Nat) (x v : V) : Option BL :=
  match x, v.cellsB with
  | .ptr t off, some cs => match lookB s t with
    | some b => if b.live = true ∧ cs.length = n ∧ off + n ≤ b.cells.length then fL (putCells b.cells off cs) fun cs => some (putB s t ⟨cs, true⟩) else none
    | none => none
  | _, _ => none
def xapp (c0 : Nat) (s : BL) (c sz bytes : Nat) (x y : V) : Option XEff :=
  match x with
  | .sl .nil sz0 [] => match vcells sz (lookB s) y with
    | some [] => some ⟨.sl .nil sz0 [], s, c, none⟩
    | some ys => let k := ys.length / sz; if ys.length = k * sz ∧ 0 < k ∧ k * bytes ≤ 281474976710656 ∧ k ≤ 4611686018427387904 then fL ys fun ys => some ⟨.buf c 0 k none sz, putB s c ⟨ys, true⟩, c + 1, none⟩ else none
    | none => none
  | .buf t 0 n cp sz' => match lookB s t, vcells sz (lookB s) y with
    | some b, some ys => let k := ys.length / sz; if sz' = sz ∧ b.live = true ∧ ys.length = k * sz then
        (match cp with
        | some cap => if n + k ≤ cap ∧ (n + k) * sz ≤ b.cells.length then fL (putCells b.cells (n * sz) ys) fun cs => some ⟨.buf t 0 (n + k) (some cap) sz, putB s t ⟨cs, true⟩, c, none⟩
          else if c0 ≤ t ∧ n * sz ≤ b.cells.length ∧ (2 * (n + k)) * bytes ≤ 281474976710656 ∧ n + k ≤ 4611686018427387904 ∧ flatB s = true ∧ ys.all V.flat = true then fL (b.cells.take (n * sz) ++ ys) fun cs => some ⟨.buf t 0 (n + k) none sz, putB s t ⟨cs, true⟩, c, some (.inl t)⟩ else none
        | none => if c0 ≤ t ∧ n * sz ≤ b.cells.length ∧ (2 * (n + k)) * bytes ≤ 281474976710656 ∧ n + k ≤ 4611686018427387904 ∧ flatB s = true ∧ ys.all V.flat = true then fL (b.cells.take (n * sz) ++ ys) fun cs => some ⟨.buf t 0 (n + k) none sz, putB s t ⟨cs, true⟩, c, some (.inl t)⟩ else none)
      else none
    | _, _ => none
  | _ => none
def xcpy (s : BL) (c sz : Nat) (x y : V) : Option XEff :=
  match x with
  | .buf t off n cap sz' => match lookB s t, vcells sz (lookB s) y with
    | some b, some ys => let m := ys.length / sz; if sz' = sz ∧ b.live = true ∧ ys.length = m * sz ∧ off + n * sz ≤ b.cells.length then
        fL (putCells b.cells off (ys.take (min m n * sz))) fun cs => some ⟨.int .i64 ((min m n : Nat) : Int), putB s t ⟨cs, true⟩, c, none⟩ else none
    | _, _ => none
  | _ => none
def xmk (s : BL) (c : Nat) (z : List Value) (bytes : Nat) (l q : V) : Option XEff :=
  match l, q with
  | .lit (.int _ (.ofNat n)), .lit (.int _ (.ofNat cap)) => if n ≤ cap ∧ cap * bytes ≤ 281474976710656 ∧ cap ≤ 9223372036854775807 then fL (rept z cap) fun cs => some ⟨.buf c 0 n (some cap) z.length, putB s c ⟨cs, true⟩, c + 1, none⟩ else none
  | _, _ => none

def offB : V → V → Bool
  | .ptr t _, .ptr u _ => !(Nat.beq t u)
  | .ptr _ _, .eptr _ _ => true
  | _, _ => false
theorem offB_off {p q : V} (h : offB p q = true) : V.offp p q := by
  unfold offB at h
  split at h
  · exact fun e => by subst e; simp at h
  · trivial
  · cases h
def xeff (c0 : Nat) (e : X → V) (s : BL) (c : Nat) (o : VOp) : Option XEff :=
  match o with
  | .load ag x => (vload (lookB s) ag (e x)).map fun v => ⟨v, s, c, none⟩
  | .store n x y => (xstore s n (e x) (e y)).map fun s => ⟨.any, s, c, none⟩
  | .storeA n x y ys => if (ys.all fun i => offB (e x) (e (.t i))) = true then (xstore s n (e x) (e y)).map fun s => ⟨.any, s, c, none⟩ else none
  | .boxA n x => match (e x).cells, lookB s c with | some cs, none => if cs.length = n then fL cs fun cs => some ⟨.ptr c 0, putB s c ⟨cs, true⟩, c + 1, none⟩ else none | _, _ => none
  | .mk z bytes l q => xmk s c z bytes (e l) (e q)
  | .box x => match (e x).cells with | some cs => fL cs fun cs => some ⟨.ptr c 0, putB s c ⟨cs, true⟩, c + 1, none⟩ | none => none
  | .alloc z => fL (vlits z) fun cs => some ⟨.ptr c 0, putB s c ⟨cs, true⟩, c + 1, none⟩
  | .bsl tok sz len z ps => match vfill (rept z len) (partsOf e ps) with
    | some cs => if tok = true then some ⟨.sl (.id c) sz cs, s, c + 1, none⟩ else some ⟨.sl .unk sz cs, s, c, none⟩
    | none => none
  | .app sz bytes z x y => xapp c0 s c sz bytes (e x) (e y)
  | .cpy sz x y => xcpy s c sz (e x) (e y)
  | .call _ _ => none
  | .callv _ _ => none
  | .bad => none
  | o => (vpure e o).map fun v => ⟨v, s, c, none⟩

theorem xstore_sound {s s' : BL} {n : Nat} {x y : V} (h1 : xstore s n x y = some s') : vstore (lookB s) n x y = some (lookB s') := by
  unfold xstore at h1
  unfold vstore
  split at h1
  · split at h1
    · split at h1
      · rename_i hb hc
        rw [fL_eq] at h1
        cases h1
        simp only [*, lookB_put]
        rw [if_pos (by first | exact hc | simp [hc])]
      · cases h1
    · cases h1
  · cases h1
theorem xeff_sound {P : Program} {dr : Bool} {c0 : Nat} {e : X → V} {s : BL} {c : Nat} {o : VOp} {r : XEff} (h : xeff c0 e s c o = some r) : VEff P dr c0 e (lookB s) c o r.v (lookB r.s) r.c r.k := by
  unfold xeff at h
  split at h
  · obtain ⟨v, h1, rfl⟩ := Option.map_eq_some_iff.1 h
    exact .load h1
  · obtain ⟨s', h1, rfl⟩ := Option.map_eq_some_iff.1 h
    exact .store (xstore_sound h1)
  · split at h
    · rename_i hy
      obtain ⟨s', h1, rfl⟩ := Option.map_eq_some_iff.1 h
      exact .storeA (fun i hi => offB_off (List.all_eq_true.1 hy i hi)) (xstore_sound h1)
    · cases h
  · split at h
    · rename_i hc hf
      split at h
      · rename_i hn
        rw [fL_eq] at h
        cases h
        rw [lookB_put]
        exact .boxA hf hc hn
      · cases h
    · cases h
  · unfold xmk at h
    split at h
    · rename_i hl hq
      split at h
      · rename_i hc
        rw [fL_eq] at h
        cases h
        rw [lookB_put]
        exact .mk hl hq hc.1 hc.2.1 hc.2.2
      · cases h
    · cases h
  · split at h
    · rename_i hc
      rw [fL_eq] at h
      cases h
      rw [lookB_put]
      exact .box hc
    · cases h
  · rw [fL_eq] at h
    cases h
    rw [lookB_put]
    exact .alloc
  · split at h
    · rename_i hc
      split at h
      · rename_i ht; subst ht; cases h; exact .bsl hc
      · rename_i ht
        simp at ht
        subst ht; cases h; exact .bsl0 hc
    · cases h
  · rename_i sz bytes z x y
    unfold xapp at h
    split at h
    · rename_i hx
      split at h
      · rename_i hy
        cases h
        exact .appNil0 hx hy
      · rename_i ys _ hy
        dsimp only at h
        split at h
        · rename_i hc
          rw [fL_eq] at h
          cases h
          rw [lookB_put]
          exact .appNil hx hy hc.1 hc.2.1 hc.2.2.1 hc.2.2.2
        · cases h
      · cases h
    · rename_i t n cp sz' hx
      split at h
      · rename_i b ys hb hy
        dsimp only at h
        split at h
        · rename_i hc
          obtain ⟨rfl, hl, hk⟩ := hc
          have hb' : lookB s t = some ⟨b.cells, true⟩ := by rw [hb, ← hl]
          split at h
          · rename_i cap
            split at h
            · rename_i hf
              rw [fL_eq] at h
              cases h
              rw [lookB_put]
              exact .appFit hx hb' hy hk hf.1 hf.2
            · split at h
              · rename_i hf
                rw [fL_eq] at h
                cases h
                rw [lookB_put]
                exact (by have q := VEff.appMove (P := P) (dr := dr) (c0 := c0) (e := e) (σ := lookB s) (c := c) (z := z) hx hb' hf.1 hy hk hf.2.1 hf.2.2.1 hf.2.2.2.1; rw [flatB_kill hf.2.2.2.2.1, flat_killL t (all_app (all_take _ (flatB_look hf.2.2.2.2.1 hb')) hf.2.2.2.2.2)] at q; exact q)
              · cases h
          · split at h
            · rename_i hf
              rw [fL_eq] at h
              cases h
              rw [lookB_put]
              exact (by have q := VEff.appMove (P := P) (dr := dr) (c0 := c0) (e := e) (σ := lookB s) (c := c) (z := z) hx hb' hf.1 hy hk hf.2.1 hf.2.2.1 hf.2.2.2.1; rw [flatB_kill hf.2.2.2.2.1, flat_killL t (all_app (all_take _ (flatB_look hf.2.2.2.2.1 hb')) hf.2.2.2.2.2)] at q; exact q)
            · cases h
        · cases h
      · cases h
    · cases h
  · unfold xcpy at h
    split at h
    · rename_i t off n cap sz' hx
      split at h
      · rename_i b ys hb hy
        dsimp only at h
        split at h
        · rename_i hc
          obtain ⟨rfl, hl, hk, hf⟩ := hc
          have hb' : lookB s t = some ⟨b.cells, true⟩ := by rw [hb, ← hl]
          rw [fL_eq] at h
          cases h
          rw [lookB_put]
          exact .cpy hx hb' hy hk hf
        · cases h
      · cases h
    · cases h
  · cases h
  · cases h
  · cases h
  · obtain ⟨v, h1, rfl⟩ := Option.map_eq_some_iff.1 h
    exact .pure h1

def frz1 {β : Type} (c0 : Nat) (i : Nat) (S : XS) (k : XS → Option β) : Option β :=
  match nth S.r i with
  | .buf t off n cap sz => if c0 ≤ t then (match lookB S.s t with
      | some b => if off + n * sz ≤ b.cells.length ∧ ((b.cells.drop off).take (n * sz)).all V.flat = true then fL ((b.cells.drop off).take (n * sz)) fun l => setR S.r i (.sl (Tok.from off t) sz l) fun r => k ⟨r, putB S.s t ⟨b.cells, false⟩, S.c⟩ else none
      | none => none) else k S
  | _ => k S
theorem frz1_some {β : Type} {c0 i : Nat} {S : XS} {k : XS → Option β} {b : β} (h : frz1 c0 i S k = some b) : ∃ S1, k S1 = some b ∧ (S1 = S ∨ ∃ t off n sz cap cells lv, S.vs.ρ i = .buf t off n cap sz ∧ S.vs.σ t = some ⟨cells, lv⟩ ∧ c0 ≤ t ∧ off + n * sz ≤ cells.length ∧ S1.vs = frozen S.vs i t off sz cells (((cells.drop off).take (n * sz)).map V.solid)) := by
  unfold frz1 at h
  split at h
  · rename_i t off n cap sz hi
    split at h
    · rename_i h0
      split at h
      · rename_i bk hb
        split at h
        · rename_i hl
          rw [fL_eq] at h
          obtain ⟨r, h1, h2⟩ := setR_some h
          refine ⟨_, h1, .inr ⟨t, off, n, sz, cap, bk.cells, bk.live, hi, hb, h0, hl.1, ?_⟩⟩
          rw [flat_solid hl.2]
          simp only [XS.vs, frozen, h2, lookB_put]
        · cases h
      · cases h
    · exact ⟨S, h, .inl rfl⟩
  · exact ⟨S, h, .inl rfl⟩
def frzL {β : Type} (c0 : Nat) (l : List Nat) (S : XS) (k : XS → Option β) : Option β := match l with | [] => k S | i :: r => frz1 c0 i S fun S => frzL c0 r S k

theorem frzL_exec {β : Type} {P : Program} {c0 : Nat} {l : List Nat} {S : XS} {k : XS → Option β} {b : β} (h : frzL c0 l S k = some b) : ∃ S1 : XS, k S1 = some b ∧ ∀ vc e S', VExec P c0 vc S1.vs e S' → VExec P c0 vc S.vs e S' := by
  induction l generalizing S with
  | nil => exact ⟨S, h, fun _ _ _ h => h⟩
  | cons i r ih =>
    obtain ⟨S1, h1, h2⟩ := frz1_some h
    obtain ⟨S2, h3, h4⟩ := ih h1
    refine ⟨S2, h3, fun vc e S' hs => ?_⟩
    have h5 := h4 vc e S' hs
    rcases h2 with rfl | ⟨t, off, n, sz, cap, cells, lv, g1, g2, g3, g4, g5⟩
    · exact h5
    · exact .freeze g1 g2 g3 g4 (by rw [← g5]; exact h5)

def lentB (s : BL) (l : List V) : BL := match l with
  | [] => []
  | .buf t _ _ _ _ :: r => (match lookB s t with | some b => if b.live = true then putB (lentB s r) t b else lentB s r | none => lentB s r)
  | .ptr t _ :: r => (match lookB s t with | some b => if b.live = true then putB (lentB s r) t b else lentB s r | none => lentB s r)
  | _ :: r => lentB s r
theorem lentB_ok (s : BL) (l : List V) (t : Nat) (b : Blk) (h : lookB (lentB s l) t = some b) : lookB s t = some b ∧ b.live = true := by
  have key : ∀ (t : Nat) (b : Blk) (r : List V) (t' : Nat), (∀ t b, lookB (lentB s r) t = some b → lookB s t = some b ∧ b.live = true) →
      lookB (match lookB s t' with | some b => if b.live = true then putB (lentB s r) t' b else lentB s r | none => lentB s r) t = some b → lookB s t = some b ∧ b.live = true := by
    intro t b r t' ih h
    split at h
    · rename_i b' hb
      split at h
      · rename_i hl
        rw [lookB_put] at h
        simp only [supd] at h
        split at h
        · rename_i e; subst e; cases h; exact ⟨hb, hl⟩
        · exact ih _ _ h
      · exact ih _ _ h
    · exact ih _ _ h
  revert t b
  induction l with
  | nil => intro t b h; cases h
  | cons x r ih =>
    intro t b h
    cases x with
    | buf t' off n cap sz => exact key t b r t' (fun t b h => ih t b h) h
    | ptr t' off => exact key t b r t' (fun t b h => ih t b h) h
    | any => exact ih t b h
    | lit _ => exact ih t b h
    | sl _ _ _ => exact ih t b h
    | eptr _ _ => exact ih t b h
    | gptr _ _ => exact ih t b h
    | agg _ => exact ih t b h
    | tup _ => exact ih t b h

structure XRes where
  v : V
  s : BL
  c : Nat
abbrev XCall := FuncId → List V → BL → Nat → Option XRes
def CallOk (P : Program) (call : XCall) : Prop := ∀ f xs sl c r, call f xs sl c = some r → VCalls P f c (lookB sl) xs r.v (lookB r.s) r.c ∧ ∀ t, lookB sl t = none → lookB r.s t = none

def xput {β : Type} (d : Option Nat) (v : V) (r : List V) (k : List V → Option β) : Option β := match d with | none => k r | some i => fV v fun v => setR r i v k
theorem xput_some {β : Type} {d : Option Nat} {v : V} {r : List V} {k : List V → Option β} {b : β} (h : xput d v r k = some b) : ∃ r', k r' = some b ∧ nth r' = updo (nth r) d v := by
  cases d with
  | none => exact ⟨r, h, rfl⟩
  | some i =>
    simp only [xput, fV_eq] at h
    exact setR_some h

def killR (t : Nat) (l : List V) : List V := match l with | [] => [] | x :: xs => killV t x :: killR t xs
theorem nth_kill (t : Nat) (l : List V) : nth (killR t l) = kill (some (.inl t)) (nth l) := by
  funext i
  induction l generalizing i with
  | nil => rfl
  | cons x xs ih =>
    cases i with
    | zero => rfl
    | succ i => exact ih i

def xcallop {β : Type} (call : XCall) (dr : Bool) (lend : FuncId → Bool) (c0 : Nat) (f : FuncId) (xs : List X) (d : Option Nat) (S : XS) (k : XS → Option β) : Option β :=
  (if dr = true ∨ lend f = true then fun k => k S else frzL c0 (xs.flatMap X.reads) S) fun S =>
    let ys := xs.map (X.ev (nth S.r))
    let sl := if dr = true then [] else lentB S.s ys
    match sl with
    | [] => (match call f ys [] S.c with
      | some ⟨v, _, c'⟩ => fN c' fun c' => xput d v S.r fun r => k ⟨r, S.s, c'⟩
      | none => none)
    | sl => (match call f ys sl S.c with
      | some ⟨v, s', c'⟩ => fN c' fun c' => fL (keepB (fun t => !((lookB sl t).isSome || decide (S.c ≤ t))) S.s ++ s') fun s => xput d v S.r fun r => k ⟨r, s, c'⟩
      | none => none)

def asFn (v : V) : Option FuncId := match v with | .lit (.func (.func f) a b) => if a.size = 0 ∧ b.size = 0 then some f else none | _ => none
theorem asFn_some {v : V} {f : FuncId} (h : asFn v = some f) : v = .lit (.func (.func f) #[] #[]) := by
  unfold asFn at h
  split at h
  · split at h
    · rename_i f' a b g
      cases h
      rw [Array.eq_empty_of_size_eq_zero g.1, Array.eq_empty_of_size_eq_zero g.2]
    · cases h
  · cases h
def xstep {β : Type} (call : XCall) (dr : Bool) (lend : FuncId → Bool) (c0 : Nat) (op : VOp) (d : Option Nat) (S : XS) (k : XS → Option β) : Option β :=
  match op with
  | .call f xs => xcallop call dr lend c0 f xs d S k
  | .callv x xs => (if dr = true then fun k => k S else frzL c0 (xs.flatMap X.reads) S) fun S =>
      (match asFn (x.ev (nth S.r)) with
      | some f => (match call f (xs.map (X.ev (nth S.r))) [] S.c with
        | some ⟨v, _, c'⟩ => fN c' fun c' => xput d v S.r fun r => k ⟨r, S.s, c'⟩
        | none => none)
      | none => none)
  | op => (if dr = true then fun k => k S else (match op with | .build .. | .bsl .. | .store .. | .box .. => frzL c0 op.reads S | _ => fun k => k S)) fun S =>
    (match xeff c0 (X.ev (nth S.r)) S.s S.c op with
    | some ⟨v, s, c, none⟩ => xput d v S.r fun r => k ⟨r, s, c⟩
    | some ⟨v, s, c, some (.inl t)⟩ => fL (killR t S.r) fun r => xput d v r fun r => k ⟨r, s, c⟩
    | _ => none)

def xops (call : XCall) (dr : Bool) (lend : FuncId → Bool) (c0 : Nat) (l : List VO) (S : XS) : Option XS :=
  match l with
  | [] => some S
  | ⟨d, op, none⟩ :: r => xstep call dr lend c0 op d S fun S => xops call dr lend c0 r S
  | ⟨d, op, some (t, b)⟩ :: r => match nth S.r t with
    | .lit (.bool b') => if b' = b then xstep call dr lend c0 op d S fun S => xops call dr lend c0 r S else xput d (.tup []) S.r fun rr => xops call dr lend c0 r ⟨rr, S.s, S.c⟩
    | .tup [] => xput d (.tup []) S.r fun rr => xops call dr lend c0 r ⟨rr, S.s, S.c⟩
    | _ => none

structure XOut where
  e : VEx
  S : XS
def frzOf (l : List VO) : List Nat := l.flatMap fun o => match o.op with | .call .. | .callv .. | .build .. | .bsl .. | .store .. | .box .. => o.op.reads | _ => []
def xrun (call : XCall) (lend : FuncId → Bool) (rsl : List Nat) (c0 : Nat) (n : Nat) (vc : VC) (S : XS) : Option XOut :=
  match n with
  | 0 => none
  | n + 1 => match vc with
    | .skip => some ⟨.normal, S⟩
    | .region dr ops => (if dr = true then frzL c0 (frzOf ops) S else fun k => k S) fun S =>
      (match xops call dr lend c0 ops S with | some S => some ⟨.normal, S⟩ | none => none)
    | .seq a b => match xrun call lend rsl c0 n a S with
      | some ⟨.normal, S⟩ => xrun call lend rsl c0 n b S
      | r => r
    | .cond x a b => match x.ev (nth S.r) with
      | .lit (.bool true) => xrun call lend rsl c0 n a S
      | .lit (.bool false) => xrun call lend rsl c0 n b S
      | _ => none
    | .block id b => match xrun call lend rsl c0 n b S with
      | some ⟨.exit j, S⟩ => if j = id then some ⟨.normal, S⟩ else some ⟨.exit j, S⟩
      | r => r
    | .loop b => match xrun call lend rsl c0 n b S with
      | some ⟨.normal, S⟩ => xrun call lend rsl c0 n (.loop b) S
      | r => r
    | .exit id => some ⟨.exit id, S⟩
    | .ret => frzL c0 rsl S fun S => some ⟨.ret, S⟩
    | .bad => none

structure XFun where
  f : FuncId
  vc : VC
  rs : List VRes
  n : Nat
def findF (l : List XFun) (f : FuncId) : Option XFun := match l with | [] => none | e :: r => if Nat.beq e.f f = true then some e else findF r f
def resSlots : List VRes → List Nat | [] => [] | .tmp t :: r => t :: resSlots r | _ :: r => resSlots r

abbrev XOrc := FuncId → List V → Option V
def OrcOk (P : Program) (orc : XOrc) : Prop := ∀ f xs v, orc f xs = some v → ∀ c, VCallP P f c xs v c
def askO (orc : XOrc) (f : FuncId) (xs : List V) (sl : BL) : Option V := match sl with | [] => orc f xs | _ => none

def xcall (orc : XOrc) (T : List XFun) (lend : FuncId → Bool) (rounds : Nat) : Nat → XCall
  | 0 => fun _ _ _ _ => none
  | n + 1 => fun f xs sl c => match findF T f with
    | none => none
    | some ⟨_, vc, rs, m⟩ => match askO orc f xs sl with
    | some v => some ⟨v, [], c⟩
    | none => if xs.length ≤ m then
      (match fL (xs ++ List.replicate (m - xs.length) .any) fun r => xrun (xcall orc T lend rounds n) lend (resSlots rs) c rounds vc ⟨r, sl, c⟩ with
      | some ⟨.exit _, _⟩ => none
      | some ⟨e, S⟩ => (match vresult S.vs rs with | some v => some ⟨v, keepB (fun t => (lookB sl t).isSome) S.s, S.c⟩ | none => none)
      | none => none) else none

def GoodF (P : Program) (e : XFun) : Prop := ∃ fn code, P.funcs[e.f]? = some fn ∧ fn.body = some code ∧ resCode P fn.ntmps code = e.vc ∧ resResults P fn.results.toList = some e.rs ∧ fn.ntmps = e.n ∧ (fn.name == "runtime.NumGoroutine") = false


def Fz (P : Program) (dr : Bool) (c0 : Nat) (S S0 : XS) : Prop := (∀ ops S', VSteps P dr c0 ops S0.vs S' → VSteps P dr c0 ops S.vs S') ∧ ∀ t v, nth S.r t = .lit v → nth S0.r t = .lit v
theorem Fz.refl {P : Program} {dr : Bool} {c0 : Nat} {S : XS} : Fz P dr c0 S S := ⟨fun _ _ h => h, fun _ _ h => h⟩
theorem frzL_fz {β : Type} {P : Program} {c0 : Nat} {l : List Nat} {S : XS} {k : XS → Option β} {b : β} (h : frzL c0 l S k = some b) : ∃ S1 : XS, k S1 = some b ∧ Fz P false c0 S S1 := by
  induction l generalizing S with
  | nil => exact ⟨S, h, Fz.refl⟩
  | cons i r ih =>
    obtain ⟨S1, h1, h2⟩ := frz1_some h
    obtain ⟨S2, h3, h4, h6⟩ := ih h1
    rcases h2 with rfl | ⟨t, off, n, sz, cap, cells, lv, g1, g2, g3, g4, g5⟩
    · exact ⟨S2, h3, h4, h6⟩
    · refine ⟨S2, h3, fun ops S' hs => .frz rfl g1 g2 g3 g4 (by rw [← g5]; exact h4 ops S' hs), fun u v hv => h6 u v ?_⟩
      have e : nth S1.r u = upd (nth S.r) i (.sl (Tok.from off t) sz (((cells.drop off).take (n * sz)).map V.solid)) u := congrFun (congrArg VS.ρ g5) u
      rw [e]
      simp only [upd]
      split
      · rename_i e; subst e
        have g1' : nth S.r u = _ := g1
        rw [hv] at g1'; cases g1'
      · exact hv
theorem fz_if {β : Type} {P : Program} {dr : Bool} {c0 : Nat} {p : Prop} [Decidable p] (hp : dr = true → p) {l : List Nat} {S : XS} {k : XS → Option β} {b : β} (h : (if p then fun k => k S else frzL c0 l S) k = some b) : ∃ S1 : XS, k S1 = some b ∧ Fz P dr c0 S S1 := by
  split at h
  · exact ⟨S, h, Fz.refl⟩
  · rename_i g
    cases dr with
    | true => exact absurd (hp rfl) g
    | false => exact frzL_fz h

theorem joinB (c : Nat) (s sl s' : BL) (h : ∀ t, lookB sl t = none → lookB s' t = none) : lookB (keepB (fun t => !((lookB sl t).isSome || decide (c ≤ t))) s ++ s') = joinσ c (lookB s) (lookB sl) (lookB s') := by
  funext t
  rw [lookB_append, lookB_keep]
  unfold joinσ
  by_cases e1 : (lookB sl t).isSome = true
  · simp [e1]
  · have e1' : lookB sl t = none := by simpa using e1
    by_cases e2 : c ≤ t
    · simp [e1, e2]
    · simp only [e1', Option.isSome_none, Bool.false_or, e2, decide_false, Bool.not_false, if_true, Bool.false_eq_true, or_self, if_false]
      rw [h t e1']
      cases lookB s t <;> rfl

theorem xcallop_sound {β : Type} {P : Program} {call : XCall} (hc : CallOk P call) {dr : Bool} {lend : FuncId → Bool} {c0 : Nat} {f : FuncId} {xs : List X} {d : Option Nat} {S : XS} {k : XS → Option β} {b : β} (h : xcallop call dr lend c0 f xs d S k = some b) :
    ∃ (S0 S1 : XS) (v : V) (σ' : Nat → Option Blk) (c' : Nat) (kt : KT), Fz P dr c0 S S0 ∧ VEff P dr c0 (X.ev S0.vs.ρ) S0.vs.σ S0.vs.c (.call f xs) v σ' c' kt ∧ S1.vs = ⟨updo (kill kt S0.vs.ρ) d v, σ', c'⟩ ∧ k S1 = some b := by
  unfold xcallop at h
  obtain ⟨S0, h, hz⟩ := fz_if (P := P) (dr := dr) (fun e => .inl e) h
  dsimp only at h
  split at h
  · split at h
    · rename_i v s' c' hcl
      rw [fN_eq] at h
      obtain ⟨r', h1, h2⟩ := xput_some h
      obtain ⟨g1, g2⟩ := hc _ _ _ _ _ hcl
      have e : lookB s' = noBlk := funext fun t => g2 t rfl
      rw [lookB_nil] at g1
      dsimp only at g1
      rw [e] at g1
      exact ⟨S0, _, v, _, c', none, hz, .callp g1, by simp only [XS.vs, h2]; rfl, h1⟩
    · cases h
  · rename_i sl hsl
    split at h
    · rename_i v s' c' hcl
      rw [fN_eq, fL_eq] at h
      obtain ⟨r', h1, h2⟩ := xput_some h
      obtain ⟨g1, g2⟩ := hc _ _ _ _ _ hcl
      have hdr : dr = false := by
        cases dr with
        | false => rfl
        | true => exact absurd (by simp) hsl
      subst hdr
      simp only [Bool.false_eq_true, if_false] at *
      refine ⟨S0, _, v, _, c', none, hz, .call rfl (fun t k hk => lentB_ok _ _ t k hk) g1, ?_, h1⟩
      simp only [XS.vs, h2]
      rw [joinB _ _ _ _ g2]
      rfl
    · cases h

theorem xeffop {β : Type} {P : Program} {dr : Bool} {c0 : Nat} {op : VOp} {d : Option Nat} {S : XS} {k : XS → Option β} {b : β}
    (h : (match xeff c0 (X.ev (nth S.r)) S.s S.c op with
    | some ⟨v, s, c, none⟩ => xput d v S.r fun r => k ⟨r, s, c⟩
    | some ⟨v, s, c, some (.inl t)⟩ => fL (killR t S.r) fun r => xput d v r fun r => k ⟨r, s, c⟩
    | _ => none) = some b) :
    ∃ (S1 : XS) (v : V) (σ' : Nat → Option Blk) (c' : Nat) (kt : KT), VEff P dr c0 (X.ev S.vs.ρ) S.vs.σ S.vs.c op v σ' c' kt ∧ S1.vs = ⟨updo (kill kt S.vs.ρ) d v, σ', c'⟩ ∧ k S1 = some b := by
  split at h
  · rename_i v s c hx
    obtain ⟨r', h1, h2⟩ := xput_some h
    exact ⟨_, v, _, c, none, xeff_sound hx, by simp only [XS.vs, h2]; rfl, h1⟩
  · rename_i v s c t hx
    rw [fL_eq] at h
    obtain ⟨r', h1, h2⟩ := xput_some h
    exact ⟨_, v, _, c, some (.inl t), xeff_sound hx, by simp only [XS.vs, h2, nth_kill], h1⟩
  · cases h

theorem xstep_sound {β : Type} {P : Program} {call : XCall} (hc : CallOk P call) {dr : Bool} {lend : FuncId → Bool} {c0 : Nat} {op : VOp} {d : Option Nat} {S : XS} {k : XS → Option β} {b : β}
    (hfn : ∀ x xs, op = .callv x xs → ∀ f r, call f (xs.map (X.ev (nth S.r))) [] S.c = some r → True)
    (hnm : ∀ f xs sl c r, call f xs sl c = some r → ∃ fn b, P.funcs[f]? = some fn ∧ (fn.name == "runtime.NumGoroutine") = false ∧ fn.body = some b) (h : xstep call dr lend c0 op d S k = some b) :
    ∃ (S0 S1 : XS) (v : V) (σ' : Nat → Option Blk) (c' : Nat) (kt : KT), Fz P dr c0 S S0 ∧ VEff P dr c0 (X.ev S0.vs.ρ) S0.vs.σ S0.vs.c op v σ' c' kt ∧ S1.vs = ⟨updo (kill kt S0.vs.ρ) d v, σ', c'⟩ ∧ k S1 = some b := by
  unfold xstep at h
  split at h
  · exact xcallop_sound hc h
  · rename_i x xs
    obtain ⟨S0, h, hz⟩ := fz_if (P := P) (dr := dr) (fun e => e) h
    split at h
    · rename_i f hx
      split at h
      · rename_i v s' c' hcl
        rw [fN_eq] at h
        obtain ⟨r', h1, h2⟩ := xput_some h
        obtain ⟨g1, g2⟩ := hc _ _ _ _ _ hcl
        have e : lookB s' = noBlk := funext fun t => g2 t rfl
        rw [lookB_nil] at g1
        dsimp only at g1
        rw [e] at g1
        exact ⟨S0, _, v, _, c', none, hz, .callv (asFn_some hx) (hnm _ _ _ _ _ hcl) g1, by simp only [XS.vs, h2]; rfl, h1⟩
      · cases h
    · cases h
  · obtain ⟨S0, h, hz⟩ : ∃ S1 : XS, (match xeff c0 (X.ev (nth S1.r)) S1.s S1.c op with
        | some ⟨v, s, c, none⟩ => xput d v S1.r fun r => k ⟨r, s, c⟩
        | some ⟨v, s, c, some (.inl t)⟩ => fL (killR t S1.r) fun r => xput d v r fun r => k ⟨r, s, c⟩
        | _ => none) = some b ∧ Fz P dr c0 S S1 := by
      cases dr with
      | true => exact ⟨S, by simpa using h, Fz.refl⟩
      | false =>
        simp only [Bool.false_eq_true, if_false] at h
        split at h
        all_goals first | exact frzL_fz h | exact ⟨S, h, Fz.refl⟩
    obtain ⟨S1, v, σ', c', kt, g1, g2, g3⟩ := xeffop (P := P) (dr := dr) h
    exact ⟨S0, S1, v, σ', c', kt, hz, g1, g2, g3⟩

theorem xops_sound {P : Program} {call : XCall} (hc : CallOk P call) (hnm : ∀ f xs sl c r, call f xs sl c = some r → ∃ fn b, P.funcs[f]? = some fn ∧ (fn.name == "runtime.NumGoroutine") = false ∧ fn.body = some b) {dr : Bool} {lend : FuncId → Bool} {c0 : Nat} {l : List VO} {S S' : XS} (h : xops call dr lend c0 l S = some S') :
    VSteps P dr c0 l S.vs S'.vs := by
  induction l generalizing S with
  | nil => cases h; exact .nil _
  | cons o r ih =>
    obtain ⟨d, op, g⟩ := o
    have run : ∀ g : Option (Nat × Bool), (∀ t b, g = some (t, b) → nth S.r t = .lit (.bool b)) → xstep call dr lend c0 op d S (fun S => xops call dr lend c0 r S) = some S' → VSteps P dr c0 (⟨d, op, g⟩ :: r) S.vs S'.vs := by
      intro g hg h
      obtain ⟨S0, S1, v, σ', c', kt, hz, h1, h2, h3⟩ := xstep_sound hc (fun _ _ _ _ _ _ => trivial) hnm h
      refine hz.1 _ _ (.cons (.run (fun t b e => hz.2 _ _ (hg t b e)) h1) ?_)
      rw [← h2]
      exact ih h3
    cases g with
    | none => exact run none (fun t b e => by cases e) h
    | some tb =>
      obtain ⟨t, b⟩ := tb
      have skip : skips (nth S.r t) b → (xput d (.tup []) S.r fun rr => xops call dr lend c0 r ⟨rr, S.s, S.c⟩) = some S' → VSteps P dr c0 (⟨d, op, some (t, b)⟩ :: r) S.vs S'.vs := by
        intro hs h
        obtain ⟨r', h1, h2⟩ := xput_some h
        refine .cons (.skip rfl hs) ?_
        have := ih h1
        simp only [XS.vs, h2] at this
        exact this
      simp only [xops] at h
      split at h
      · rename_i b' hb
        split at h
        · rename_i e
          subst e
          exact run _ (fun t' b'' e => by cases e; exact hb) h
        · rename_i e
          exact skip (.inl ⟨b', hb, e⟩) h
      · rename_i hb
        exact skip (.inr hb) h
      · cases h

theorem xrun_sound {P : Program} {call : XCall} (hc : CallOk P call) (hnm : ∀ f xs sl c r, call f xs sl c = some r → ∃ fn b, P.funcs[f]? = some fn ∧ (fn.name == "runtime.NumGoroutine") = false ∧ fn.body = some b) {lend : FuncId → Bool} {rsl : List Nat} {c0 : Nat} {n : Nat} {vc : VC} {S : XS} {o : XOut} (h : xrun call lend rsl c0 n vc S = some o) :
    VExec P c0 vc S.vs o.e o.S.vs := by
  induction n generalizing vc S o with
  | zero => cases h
  | succ n ih =>
    unfold xrun at h
    split at h
    · cases h; exact .skip _
    · rename_i dr ops
      have fin : ∀ S0 : XS, (match xops call dr lend c0 ops S0 with | some S => some (⟨.normal, S⟩ : XOut) | none => none) = some o → VExec P c0 (.region dr ops) S0.vs o.e o.S.vs := by
        intro S0 h
        split at h
        · rename_i S1 hS
          cases h
          exact .region (xops_sound hc hnm hS)
        · cases h
      split at h
      · obtain ⟨S0, h1, h2⟩ := frzL_exec (P := P) h
        exact h2 _ _ _ (fin S0 h1)
      · exact fin S h
    · rename_i a b
      split at h
      · rename_i S1 h1
        exact .seq (ih h1) (ih h)
      · rename_i hne
        refine .seqOut (ih h) ?_
        intro e
        obtain ⟨e0, S1⟩ := o
        simp only at e
        subst e
        exact hne S1 h
    · split at h
      · rename_i hx
        exact .cond (t := true) hx (ih h)
      · rename_i hx
        exact .cond (t := false) hx (ih h)
      · cases h
    · split at h
      · rename_i j S1 h1
        split at h
        · rename_i e; subst e; cases h; exact .blockExit (ih h1)
        · rename_i e; cases h; exact .block (ih h1) (fun e' => by cases e'; exact e rfl)
      · rename_i hne
        refine .block (ih h) ?_
        intro e
        obtain ⟨e0, S1⟩ := o
        simp only at e
        subst e
        exact hne _ S1 h
    · split at h
      · rename_i S1 h1
        exact .loop (ih h1) (ih h)
      · rename_i hne
        refine .loopOut (ih h) ?_
        intro e
        obtain ⟨e0, S1⟩ := o
        simp only at e
        subst e
        exact hne S1 h
    · cases h; exact .exit _ _
    · obtain ⟨S0, h1, h2⟩ := frzL_exec (P := P) h
      cases h1
      exact h2 _ _ _ (.ret _)
    · cases h

theorem findF_some {T : List XFun} {f : FuncId} {e : XFun} (h : findF T f = some e) : e ∈ T ∧ e.f = f := by
  induction T with
  | nil => cases h
  | cons a r ih =>
    simp only [findF] at h
    split at h
    · rename_i g
      cases h
      exact ⟨List.mem_cons_self, Nat.eq_of_beq_eq_true g⟩
    · obtain ⟨h1, h2⟩ := ih h
      exact ⟨List.mem_cons_of_mem _ h1, h2⟩

theorem xcall_sound {P : Program} (hm : P.follows .mixedOrders = true) {orc : XOrc} (ho : OrcOk P orc) {T : List XFun} (hT : ∀ e ∈ T, GoodF P e) {lend : FuncId → Bool} {rounds : Nat} (n : Nat) : CallOk P (xcall orc T lend rounds n) ∧ ∀ f xs sl c r, xcall orc T lend rounds n f xs sl c = some r → ∃ fn b, P.funcs[f]? = some fn ∧ (fn.name == "runtime.NumGoroutine") = false ∧ fn.body = some b := by
  induction n with
  | zero => exact ⟨fun f xs sl c r h => (by cases h), fun f xs sl c r h => (by cases h)⟩
  | succ n ih =>
    constructor
    · intro f xs sl c r h
      simp only [xcall] at h
      split at h
      · cases h
      · rename_i f' vc rs m hf
        obtain ⟨h1, h2⟩ := findF_some hf
        obtain ⟨fn, code, g1, g2, g3, g4, g5, _⟩ := hT _ h1
        dsimp only at h2 g1 g3 g4 g5
        subst h2 g5
        split at h
        · rename_i v hv
          cases h
          cases sl with
          | nil =>
            refine ⟨?_, fun t _ => rfl⟩
            rw [lookB_nil]
            exact ho _ _ _ hv c
          | cons _ _ => cases hv
        split at h
        · rename_i hlen
          split at h
          · cases h
          · rename_i e S hne hr
            rw [fL_eq] at hr
            have hex := xrun_sound ih.1 ih.2 hr
            dsimp only at hex
            have hst : (⟨xs ++ List.replicate (fn.ntmps - xs.length) .any, sl, c⟩ : XS).vs = ⟨start xs, lookB sl, c⟩ := by simp only [XS.vs, nth_append_any, start_nth]
            rw [hst] at hex
            split at h
            · rename_i v hv
              cases h
              have he : e = .ret ∨ e = .normal := by
                cases e with
                | normal => exact .inr rfl
                | ret => exact .inl rfl
                | exit id => exact (hne id rfl).elim
              refine ⟨vcalls_of_exec hm g1 g2 g3 g4 hlen hex he hv (fun t k hk => ?_) (fun t ht => ?_), fun t ht => ?_⟩
              · rw [lookB_keep] at hk
                split at hk
                · exact hk
                · cases hk
              · rw [lookB_keep, if_pos]
                · rfl
                · cases hq : lookB sl t with
                  | none => exact absurd hq ht
                  | some k => rfl
              · dsimp only
                rw [lookB_keep, ht]
                rfl
            · cases h
          · cases h
        · cases h
    · intro f xs sl c r h
      simp only [xcall] at h
      split at h
      · cases h
      · rename_i f' vc rs m hf
        obtain ⟨h1, h2⟩ := findF_some hf
        obtain ⟨fn, code, g1, g2, g3, g4, g5, g6⟩ := hT _ h1
        dsimp only at h2 g1
        subst h2
        exact ⟨fn, code, g1, g6, g2⟩
end Go.VM
namespace Go.VM
theorem xcall_p {P : Program} (hm : P.follows .mixedOrders = true) {orc : XOrc} (ho : OrcOk P orc) {T : List XFun} (hT : ∀ e ∈ T, GoodF P e) {lend : FuncId → Bool} {rounds n c : Nat} {f : FuncId} {xs : List V} {v : V}
    (h : ((xcall orc T lend rounds n f xs [] c).map fun r => r.v) = some v) : ∃ c', VCallP P f c xs v c' := by
  cases hr : xcall orc T lend rounds n f xs [] c with
  | none => rw [hr] at h; cases h
  | some r =>
    rw [hr] at h
    cases h
    obtain ⟨h1, h2⟩ := (xcall_sound hm ho hT (lend := lend) (rounds := rounds) n).1 f xs [] c r hr
    have e : lookB r.s = noBlk := funext fun t => h2 t rfl
    rw [lookB_nil, e] at h1
    exact ⟨_, h1⟩
end Go.VM
