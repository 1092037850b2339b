/- The claim of RootLists (all square roots modulo every m; none just where Residue says no; with x the opposite) of the program holds: whatever list and numbers come in (of bulk at most 1048576 in all, as the statement says), the law answers true, and memory that was there is as it was. -/
import Derived.Test.YtladcfeibpddeabLstM5
set_option linter.unusedSimpArgs false
set_option linter.unusedVariables false
set_option maxRecDepth 100000
set_option maxHeartbeats 8000000
namespace Go.Proofs.Ytladcfeibpddeab
open Go.VM

theorem cmpI_ge {m n : Nat} : 0 ≤ cmpI m n ↔ n ≤ m := by
  unfold cmpI
  split
  · constructor <;> intros <;> omega
  · split
    · constructor <;> intros <;> omega
    · constructor <;> intros <;> omega
section
variable {P : Program} {c0 : Nat} {ρ : Nat → V} {c i : Nat} {r : List VO} {K : VS → Prop} {σ : Nat → Option Blk} {dr : Bool}
theorem s_bslu {x : X} {n : Nat} (h : x.ev ρ = nv n) (hk : wps P dr c0 r ⟨upd ρ i (nats .unk [n]), σ, c⟩ K) : wps P dr c0 (⟨some i, .bsl false 1 1 [.int .u64 0] [(0, (1, x))], none⟩ :: r) ⟨ρ, σ, c⟩ K := by
  refine s_eff rfl (by intros; exact fun h => by cases h) (by intros; exact fun h => by cases h) ⟨_, _, _, none, .bsl0 (cs := [nv n]) ?_, hk⟩
  simp only [partsOf, List.map, h]
  rfl
end
/-- a number of the reference -/
def RefN (n : Nat) (r : V) : Prop := ∃ tk, r = nats tk (digs 4294967296 n)
theorem RefR.N {c c' n : Nat} {r : V} (h : RefR c c' n r) : RefN n r := by obtain ⟨i, h, _⟩ := h; exact ⟨_, h⟩
theorem shlN (t : Tok) (m n c : Nat) (hm : bl m ≤ 68719476736) (hn : n ≤ 1099511627776) : VSpec Try.prog F.surdref01_Shl c [nats t (digs 4294967296 m), iv n] (fun r c' => RefN (m * 2 ^ n) r) := by
  rcases Nat.eq_zero_or_pos m with h0 | h0
  · subst h0
    refine (shl32_spec t (digs 4294967296 0) n c (lim_digs two32 0) (by decide) hn).mono ?_
    rintro r c' (⟨_, h⟩ | ⟨i, h, _⟩)
    · exact ⟨.nil, by rw [h, Nat.zero_mul]; rfl⟩
    · refine ⟨.id i, ?_⟩
      rw [val_digs two32] at h
      exact h
  · exact (shlR t m n c hm h0 hn).mono fun r c' h => h.N

theorem div_round {q B0 R0 rest k : Nat} (h : q * B0 + rest = R0) (hr : rest < B0 * 2 ^ (k + 1)) (hR : R0 < B0 * 4294967296) (hB : 0 < B0) (hx : B0 * 2 ^ k ≤ rest) :
    (q + 2 ^ k) * B0 + (rest - B0 * 2 ^ k) = R0 ∧ rest - B0 * 2 ^ k < B0 * 2 ^ k ∧ q + 2 ^ k < 4294967296 := by
  have e : (q + 2 ^ k) * B0 + (rest - B0 * 2 ^ k) = R0 := by
    rw [Nat.add_mul, Nat.mul_comm (2 ^ k) B0]
    omega
  refine ⟨e, ?_, ?_⟩
  · rw [Nat.pow_succ, ← Nat.mul_assoc] at hr
    omega
  · have h1 : (q + 2 ^ k) * B0 < 4294967296 * B0 := by rw [Nat.mul_comm 4294967296]; omega
    exact Nat.lt_of_mul_lt_mul_right h1

theorem div32_spec (t u : Tok) (A0 B0 c : Nat) (hA : bl A0 ≤ 67108864) (hB : bl B0 ≤ 67108864) (hB0 : 0 < B0) :
    VSpec Try.prog F.surdref01_Div c [nats t (digs 4294967296 A0), nats u (digs 4294967296 B0)] (fun r c' => ∃ t1 t2, r = .tup [nats t1 (digs 4294967296 (A0 / B0)), nats t2 (digs 4294967296 (A0 % B0))]) := by
  refine spec_mk hm E.surdref01_Div B.surdref01_Div K.surdref01_Div Q.surdref01_Div (by rw [N.surdref01_Div]; simp) ?_
  unfold C.surdref01_Div R.surdref01_Div
  have hla := lim_digs two32 A0
  have va := val_digs two32 A0
  have hna : (digs 4294967296 A0).length ≤ 2097152 := len32_bl (by omega)
  generalize digs 4294967296 A0 = a at *
  (repeat (first | refine v_reg ?_ | refine v_last ?_ | refine vwp_seq ?_ | refine vwp_block ?_ | refine vwp_skip ?_ | refine vwp_exit ?_ | refine vwp_ret ?_ | refine v_cond ?_ | simp only [vm, ite_true, ite_false, eq_self, reduceIte, Nat.reduceEqDiff, Option.map] | refine And.intro (by omega) ?_))
  refine s_mk (n := a.length) (m := a.length) (by simp only [vm, ite_true, ite_false, eq_self, reduceIte, Nat.reduceEqDiff, Option.map]) (by simp only [vm, ite_true, ite_false, eq_self, reduceIte, Nat.reduceEqDiff, Option.map]) (Nat.le_refl _) (by omega) ?_
  (repeat (first | refine v_reg ?_ | refine v_last ?_ | refine vwp_seq ?_ | refine vwp_block ?_ | refine vwp_skip ?_ | refine vwp_exit ?_ | refine vwp_ret ?_ | refine v_cond ?_ | simp only [vm, ite_true, ite_false, eq_self, reduceIte, Nat.reduceEqDiff, Option.map] | refine And.intro (by omega) ?_))
  refine v_loop (fun S => ∃ w tk, w.length = a.length ∧ Lim 4294967296 w ∧ val 4294967296 w = A0 / B0 ∧ S.ρ 6 = nats tk (digs 4294967296 (A0 % B0)) ∧ S.ρ 7 = .buf c 0 a.length (some a.length) 1 ∧ S.σ = supd noBlk c (nblk w) ∧ c + 1 ≤ S.c) ?_ ?_
  · refine vwp_loop (fun k S => ∃ w tk rest, k ≤ a.length ∧ w.length = a.length - k ∧ Lim 4294967296 w ∧ val 4294967296 w * B0 + rest = val 4294967296 (a.drop k) ∧ rest < B0 ∧ S.ρ 0 = nats t a ∧ S.ρ 1 = nats u (digs 4294967296 B0) ∧ S.ρ 6 = nats tk (digs 4294967296 rest) ∧ S.ρ 8 = iv ((k : Int) - 1) ∧ S.ρ 7 = .buf c 0 a.length (some a.length) 1 ∧ S.σ = supd noBlk c (nblk (List.replicate k 0 ++ w)) ∧ c + 1 ≤ S.c) a.length ?_ ?_
    · refine ⟨[], .nil, 0, Nat.le_refl _, by simp, Lim.nil, by simp [val], hB0, ?_⟩
      simp only [vm, ite_true, ite_false, eq_self, reduceIte, Nat.reduceEqDiff, Option.map]
      (repeat' apply And.intro) <;> first | rfl | omega | assumption | (simp; done)
    rintro k ⟨ρ2, σ, c4⟩ ⟨w, tk, rest, hk, hw, hlw, hinv, hrest, h0, h1, h6, h8, h7, hσ, hc4⟩
    dsimp only at h0 h1 h6 h8 h7 hσ hc4
    subst hσ
    rcases Nat.eq_zero_or_pos k with rfl | hkp
    · have g : ¬ (0 : Int) ≤ ((0 : Nat) : Int) - 1 := by omega
      (repeat (first | refine v_reg ?_ | refine v_last ?_ | refine vwp_seq ?_ | refine vwp_block ?_ | refine vwp_skip ?_ | refine vwp_exit ?_ | refine vwp_ret ?_ | refine v_cond ?_ | simp only [vm, ite_true, ite_false, eq_self, reduceIte, Nat.reduceEqDiff, Option.map, h6, h8, h7, g] | refine And.intro (by omega) ?_))
      rw [List.drop_zero, va] at hinv
      obtain ⟨e1, e2⟩ := div_mod_of hinv hrest
      rw [e1, e2]
      exact ⟨w, tk, by omega, hlw, rfl, rfl, rfl, hc4⟩
    obtain ⟨i, rfl⟩ : ∃ i, k = i + 1 := ⟨k - 1, by omega⟩
    have e1 : (((i + 1 : Nat) : Int) - 1) = (i : Int) := by omega
    rw [e1] at h8
    have g : (0 : Int) ≤ (i : Int) := by omega
    have hxi := hla.getD (i := i) (by decide)
    have hdrop := val_drop (b := 4294967296) (l := a) (i := i) (by omega)
    have hbr : bl rest ≤ 67108864 := Nat.le_trans (bl_mono (Nat.le_of_lt hrest)) hB
    (repeat (first | refine v_reg ?_ | refine v_last ?_ | refine vwp_seq ?_ | refine vwp_block ?_ | refine vwp_skip ?_ | refine vwp_exit ?_ | refine vwp_ret ?_ | refine v_cond ?_ | simp only [vm, ite_true, ite_false, eq_self, reduceIte, Nat.reduceEqDiff, Option.map, h0, h1, h6, h8, h7, g] | refine And.intro (by omega) ?_))
    refine s_call (shlN tk rest 32 c4 (by omega) (by decide)) (by simp only [vm, ite_true, ite_false, eq_self, reduceIte, Nat.reduceEqDiff, Option.map, List.map]; rfl) ?_
    rw [show (2 : Nat) ^ 32 = 4294967296 by decide]
    rintro v c5 hc5 ⟨t2, rfl⟩
    (repeat (first | refine v_reg ?_ | refine v_last ?_ | refine vwp_seq ?_ | refine vwp_block ?_ | refine vwp_skip ?_ | refine vwp_exit ?_ | refine vwp_ret ?_ | refine v_cond ?_ | simp only [vm, ite_true, ite_false, eq_self, reduceIte, Nat.reduceEqDiff, Option.map, h0, h1, h6, h8, h7, g] | refine And.intro (by omega) ?_))
    generalize a.getD i 0 = x at *
    refine s_bslu (n := x) (by simp only [vm, ite_true, ite_false, eq_self, reduceIte, Nat.reduceEqDiff, Option.map]) ?_
    refine s_call (norm32_spec .unk [x] c5 (Lim.nil.cons hxi) (by simp)) (by simp only [vm, ite_true, ite_false, eq_self, reduceIte, Nat.reduceEqDiff, Option.map, List.map]) ?_
    rw [show val 4294967296 [x] = x by simp [val]]
    rintro v c6 hc6 rfl
    have hbm := bl_mul_le rest 4294967296
    have hb32 : bl 4294967296 = 33 := by decide
    have hbx : bl x ≤ 32 := bl_le (by exact hxi)
    refine s_call (addR t2 .unk (rest * 4294967296) x c6 (by omega) (by omega)) (by simp only [vm, ite_true, ite_false, eq_self, reduceIte, Nat.reduceEqDiff, Option.map, List.map]) ?_
    rintro v c7 hc7 ⟨j7, rfl, _, _⟩
    obtain ⟨R0, hR0⟩ : ∃ R0, R0 = rest * 4294967296 + x := ⟨_, rfl⟩
    have hbR : bl R0 ≤ 67108898 := by
      rw [hR0]
      exact bl_add_le (k := 67108897) (by omega) (by omega)
    rw [← hR0]
    have hRB : R0 < B0 * 4294967296 := by omega
    have hlen : (List.replicate (i + 1) 0 ++ w).length = a.length := by simp [hw]; omega
    have hset : ∀ v, (List.replicate (i + 1) 0 ++ w).set i v = List.replicate i 0 ++ (v :: w) := set_top w i
    have fin : ∀ q rest', q * B0 + rest' = R0 → val 4294967296 (q :: w) * B0 + rest' = val 4294967296 (a.drop i) := fun q rest' h => by
      rw [hdrop, val_cons]
      exact thr_step hinv (by rw [h, hR0])
    (repeat (first | refine v_reg ?_ | refine v_last ?_ | refine vwp_seq ?_ | refine vwp_block ?_ | refine vwp_skip ?_ | refine vwp_exit ?_ | refine vwp_ret ?_ | refine v_cond ?_ | simp only [vm, ite_true, ite_false, eq_self, reduceIte, Nat.reduceEqDiff, Option.map, h0, h1, h6, h8, h7] | refine And.intro (by omega) ?_))
    refine s_call (cmpR (.id j7) u R0 B0 c7 (by omega) (by omega)) (by simp only [vm, ite_true, ite_false, eq_self, reduceIte, Nat.reduceEqDiff, Option.map, List.map]) ?_
    rintro v c8 hc8 rfl
    by_cases g2 : 0 ≤ cmpI R0 B0
    · have hge := cmpI_ge.1 g2
      (repeat (first | refine v_reg ?_ | refine v_last ?_ | refine vwp_seq ?_ | refine vwp_block ?_ | refine vwp_skip ?_ | refine vwp_exit ?_ | refine vwp_ret ?_ | refine v_cond ?_ | simp only [vm, ite_true, ite_false, eq_self, reduceIte, Nat.reduceEqDiff, Option.map, h0, h1, h6, h8, h7, g2] | refine And.intro (by omega) ?_))
      refine v_loop (fun S => ∃ q tk' rest', q * B0 + rest' = R0 ∧ rest' < B0 ∧ q < 4294967296 ∧ S.ρ 0 = nats t a ∧ S.ρ 1 = nats u (digs 4294967296 B0) ∧ S.ρ 6 = nats tk' (digs 4294967296 rest') ∧ S.ρ 7 = .buf c 0 a.length (some a.length) 1 ∧ S.ρ 8 = iv (i : Int) ∧ S.ρ 9 = nv q ∧ S.σ = supd noBlk c (nblk (List.replicate (i + 1) 0 ++ w)) ∧ c + 1 ≤ S.c) ?_ ?_
      · refine vwp_loop (fun k S => ∃ q tk' rest', k ≤ 32 ∧ q * B0 + rest' = R0 ∧ rest' < B0 * 2 ^ k ∧ q < 4294967296 ∧ S.ρ 0 = nats t a ∧ S.ρ 1 = nats u (digs 4294967296 B0) ∧ S.ρ 6 = nats tk' (digs 4294967296 rest') ∧ S.ρ 7 = .buf c 0 a.length (some a.length) 1 ∧ S.ρ 8 = iv (i : Int) ∧ S.ρ 9 = nv q ∧ S.ρ 10 = iv ((k : Int) - 1) ∧ S.σ = supd noBlk c (nblk (List.replicate (i + 1) 0 ++ w)) ∧ c + 1 ≤ S.c) 32 ?_ ?_
        · refine ⟨0, .id j7, R0, by omega, by omega, hRB, by decide, ?_⟩
          simp only [vm, ite_true, ite_false, eq_self, reduceIte, Nat.reduceEqDiff, Option.map, h0, h1, h8, h7]
          (repeat' apply And.intro) <;> first | rfl | omega | assumption
        rintro k ⟨ρ3, σ, c9⟩ ⟨q, tk', rest', hk, hq, hr', hq32, h0, h1, h6, h7, h8, h9, h10, hσ, hc9⟩
        dsimp only at h0 h1 h6 h7 h8 h9 h10 hσ hc9
        subst hσ
        rcases Nat.eq_zero_or_pos k with rfl | hkp
        · have g3 : ¬ (0 : Int) ≤ ((0 : Nat) : Int) - 1 := by omega
          rw [Nat.pow_zero, Nat.mul_one] at hr'
          (repeat (first | refine v_reg ?_ | refine v_last ?_ | refine vwp_seq ?_ | refine vwp_block ?_ | refine vwp_skip ?_ | refine vwp_exit ?_ | refine vwp_ret ?_ | refine v_cond ?_ | simp only [vm, ite_true, ite_false, eq_self, reduceIte, Nat.reduceEqDiff, Option.map, h0, h1, h6, h7, h8, h9, h10, g3] | refine And.intro (by omega) ?_))
          exact ⟨q, tk', rest', hq, hr', hq32, rfl, rfl, hc9⟩
        obtain ⟨s, rfl⟩ : ∃ s, k = s + 1 := ⟨k - 1, by omega⟩
        have e2 : (((s + 1 : Nat) : Int) - 1) = (s : Int) := by omega
        rw [e2] at h10
        have g3 : (0 : Int) ≤ (s : Int) := by omega
        have hbr' : bl rest' ≤ 67108898 := Nat.le_trans (bl_mono (by omega)) hbR
        have hbBs : bl (B0 * 2 ^ s) ≤ 67108896 := by rw [bl_mul_pow hB0]; omega
        (repeat (first | refine v_reg ?_ | refine v_last ?_ | refine vwp_seq ?_ | refine vwp_block ?_ | refine vwp_skip ?_ | refine vwp_exit ?_ | refine vwp_ret ?_ | refine v_cond ?_ | simp only [vm, ite_true, ite_false, eq_self, reduceIte, Nat.reduceEqDiff, Option.map, h0, h1, h6, h7, h8, h9, h10, g3] | refine And.intro (by omega) ?_))
        refine s_call (shlR u B0 s c9 (by omega) hB0 (by omega)) (by simp only [vm, ite_true, ite_false, eq_self, reduceIte, Nat.reduceEqDiff, Option.map, List.map, h1, h10]) ?_
        rintro v c10 hc10 ⟨j10, rfl, _, _⟩
        (repeat (first | refine v_reg ?_ | refine v_last ?_ | refine vwp_seq ?_ | refine vwp_block ?_ | refine vwp_skip ?_ | refine vwp_exit ?_ | refine vwp_ret ?_ | refine v_cond ?_ | simp only [vm, ite_true, ite_false, eq_self, reduceIte, Nat.reduceEqDiff, Option.map, h0, h1, h6, h7, h8, h9, h10, g3] | refine And.intro (by omega) ?_))
        refine s_call (cmpR tk' (.id j10) rest' (B0 * 2 ^ s) c10 (by omega) (by omega)) (by simp only [vm, ite_true, ite_false, eq_self, reduceIte, Nat.reduceEqDiff, Option.map, List.map, h6]) ?_
        rintro v c11 hc11 rfl
        by_cases g4 : 0 ≤ cmpI rest' (B0 * 2 ^ s)
        · have hge2 := cmpI_ge.1 g4
          obtain ⟨k1, k2, k3⟩ := div_round hq hr' hRB hB0 hge2
          have m1 : min s 64 = s := by omega
          have m2 : 1 * 2 ^ s % 18446744073709551616 = 2 ^ s := by
            rw [Nat.one_mul]
            exact Nat.mod_eq_of_lt (by omega)
          have m3 : (q + 2 ^ s) % 18446744073709551616 = q + 2 ^ s := Nat.mod_eq_of_lt (by omega)
          (repeat (first | refine v_reg ?_ | refine v_last ?_ | refine vwp_seq ?_ | refine vwp_block ?_ | refine vwp_skip ?_ | refine vwp_exit ?_ | refine vwp_ret ?_ | refine v_cond ?_ | simp only [vm, ite_true, ite_false, eq_self, reduceIte, Nat.reduceEqDiff, Option.map, h0, h1, h6, h7, h8, h9, h10, g4] | refine And.intro (by omega) ?_))
          refine s_call (subR tk' (.id j10) rest' (B0 * 2 ^ s) c11 (by omega) hge2) (by simp only [vm, ite_true, ite_false, eq_self, reduceIte, Nat.reduceEqDiff, Option.map, List.map, h6]) ?_
          rintro v c12 hc12 ⟨j12, rfl, _, _⟩
          (repeat (first | refine v_reg ?_ | refine v_last ?_ | refine vwp_seq ?_ | refine vwp_block ?_ | refine vwp_skip ?_ | refine vwp_exit ?_ | refine vwp_ret ?_ | refine v_cond ?_ | simp only [vm, ite_true, ite_false, eq_self, reduceIte, Nat.reduceEqDiff, Option.map, h0, h1, h7, h8, h9, h10, m1, m2, m3] | refine And.intro (by omega) ?_))
          exact ⟨s, by omega, q + 2 ^ s, .id j12, rest' - B0 * 2 ^ s, by omega, k1, k2, k3, rfl, rfl, rfl, by omega⟩
        · have hlt2 : ¬ B0 * 2 ^ s ≤ rest' := fun h => g4 (cmpI_ge.2 h)
          (repeat (first | refine v_reg ?_ | refine v_last ?_ | refine vwp_seq ?_ | refine vwp_block ?_ | refine vwp_skip ?_ | refine vwp_exit ?_ | refine vwp_ret ?_ | refine v_cond ?_ | simp only [vm, ite_true, ite_false, eq_self, reduceIte, Nat.reduceEqDiff, Option.map, h0, h1, h6, h7, h8, h9, h10, g4] | refine And.intro (by omega) ?_))
          exact ⟨s, by omega, q, tk', rest', by omega, hq, by omega, hq32, rfl, rfl, rfl, by omega⟩
      rintro ⟨ρ3, σ, c9⟩ ⟨q, tk', rest', hq, hr', hq32, h0, h1, h6, h7, h8, h9, hσ, hc9⟩
      dsimp only at h0 h1 h6 h7 h8 h9 hσ hc9
      subst hσ
      have hqm : q < 4294967296 := hq32
      (repeat (first | refine v_reg ?_ | refine v_last ?_ | refine vwp_seq ?_ | refine vwp_block ?_ | refine vwp_skip ?_ | refine vwp_exit ?_ | refine vwp_ret ?_ | refine v_cond ?_ | simp only [vm, ite_true, ite_false, eq_self, reduceIte, Nat.reduceEqDiff, Option.map, h0, h1, h6, h7, h8, h9, hlen, hset] | refine And.intro (by omega) ?_))
      exact ⟨i, by omega, q :: w, tk', rest', by omega, by simp [hw]; omega, hlw.cons hq32, fin q rest' hq, hr', rfl, rfl, rfl, by omega⟩
    · have hlt : R0 < B0 := by
        have : ¬ B0 ≤ R0 := fun h => g2 (cmpI_ge.2 h)
        omega
      (repeat (first | refine v_reg ?_ | refine v_last ?_ | refine vwp_seq ?_ | refine vwp_block ?_ | refine vwp_skip ?_ | refine vwp_exit ?_ | refine vwp_ret ?_ | refine v_cond ?_ | simp only [vm, ite_true, ite_false, eq_self, reduceIte, Nat.reduceEqDiff, Option.map, h0, h1, h6, h8, h7, g2, hlen, hset] | refine And.intro (by omega) ?_))
      exact ⟨i, by omega, 0 :: w, .id j7, R0, by omega, by simp [hw]; omega, hlw.cons (by decide), fin 0 R0 (by omega), hlt, rfl, rfl, rfl, by omega⟩
  rintro ⟨ρ3, σ, c5⟩ ⟨w, tk, hw, hlw, hvw, h6, h7, hσ, hc5⟩
  dsimp only at h6 h7 hσ hc5
  subst hσ
  refine v_freeze 7 (t := c) (off := 0) (n := a.length) (cap := some a.length) (l := w) (by simp only [vm, ite_true, ite_false, eq_self, reduceIte, Nat.reduceEqDiff, Option.map, h7]) (by simp only [vm, ite_true, ite_false, eq_self, reduceIte, Nat.reduceEqDiff, Option.map]) (by omega) (by omega) ?_
  rw [List.drop_zero, show w.take a.length = w from List.take_of_length_le (by omega)]
  (repeat (first | refine v_reg ?_ | refine v_last ?_ | refine vwp_seq ?_ | refine vwp_block ?_ | refine vwp_skip ?_ | refine vwp_exit ?_ | refine vwp_ret ?_ | refine v_cond ?_ | simp only [vm, ite_true, ite_false, eq_self, reduceIte, Nat.reduceEqDiff, Option.map, h6] | refine And.intro (by omega) ?_))
  refine s_call (norm32_spec (.id c) w c5 hlw (by omega)) (by simp only [vm, ite_true, ite_false, eq_self, reduceIte, Nat.reduceEqDiff, Option.map, List.map]) ?_
  rintro v c6 hc6 rfl
  rw [hvw]
  (repeat (first | refine v_reg ?_ | refine v_last ?_ | refine vwp_seq ?_ | refine vwp_block ?_ | refine vwp_skip ?_ | refine vwp_exit ?_ | refine vwp_ret ?_ | refine v_cond ?_ | simp only [vm, ite_true, ite_false, eq_self, reduceIte, Nat.reduceEqDiff, Option.map, h6] | refine And.intro (by omega) ?_))
  exact ⟨.id c, tk, rfl⟩
end Go.Proofs.Ytladcfeibpddeab
/-! the square roots modulo a number, as a list: plain facts -/
set_option linter.unusedVariables false
namespace Go.VM
def rsP (A m i : Nat) : Bool := decide (i * i % m = A % m)
def RL (A m : Nat) : List Nat := (List.range m).filter (rsP A m)
def posL (m : Nat) : List Nat := (List.range (m - 1)).map (· + 1)
def PL (A m : Nat) : List Nat := (posL m).filter (rsP A m)
def skewN (l : List Nat) : Nat := if l.head? = some 0 then 1 else 0

theorem opp_res {A m x : Nat} (h : x ≤ m) : rsP A m (m - x) = rsP A m x := by
  have e : (m - x) * (m - x) + m * (2 * x) = m * m + x * x := by
    obtain ⟨y, rfl⟩ : ∃ y, m = x + y := ⟨m - x, by omega⟩
    rw [Nat.add_sub_cancel_left]
    simp only [Nat.add_mul, Nat.mul_add]
    have : x * (2 * x) = x * x + x * x := by rw [Nat.mul_comm 2 x, ← Nat.mul_assoc, Nat.mul_two]
    have h2 : y * (2 * x) = y * x + y * x := by rw [Nat.mul_comm 2 x, ← Nat.mul_assoc, Nat.mul_two]
    rw [this, h2, Nat.mul_comm y x]
    omega
  have e2 : (m - x) * (m - x) % m = x * x % m := by
    have h1 := congrArg (· % m) e
    simp only [Nat.add_mul_mod_self_left] at h1
    rw [h1, Nat.add_comm, Nat.add_mul_mod_self_left]
  unfold rsP
  rw [e2]
theorem posL_get {m i : Nat} (h : i < m - 1) : (posL m)[i]? = some (i + 1) := by
  unfold posL
  rw [List.getElem?_map, List.getElem?_range h]
  rfl
theorem posL_rev (m : Nat) : (posL m).reverse = (posL m).map (m - ·) := by
  have hl : (posL m).length = m - 1 := by simp [posL]
  refine List.ext_getElem? fun i => ?_
  rw [List.getElem?_map]
  rcases Nat.lt_or_ge i (m - 1) with h | h
  · rw [List.getElem?_reverse (by rw [hl]; exact h), hl, posL_get h, posL_get (by omega)]
    simp only [Option.map_some, Option.some.injEq]
    omega
  · rw [List.getElem?_eq_none (by rw [List.length_reverse, hl]; exact h), List.getElem?_eq_none (by rw [hl]; exact h)]
    rfl
theorem mem_posL {m x : Nat} (h : x ∈ posL m) : 1 ≤ x ∧ x < m := by
  obtain ⟨i, hi, rfl⟩ := List.mem_map.1 h
  have := List.mem_range.1 hi
  omega
theorem PL_rev (A m : Nat) : (PL A m).reverse = (PL A m).map (m - ·) := by
  unfold PL
  rw [← List.filter_reverse, posL_rev, List.filter_map]
  congr 1
  refine List.filter_congr fun x hx => ?_
  exact opp_res (Nat.le_of_lt (mem_posL hx).2)
theorem PL_opp {A m j : Nat} (h : j < (PL A m).length) : (PL A m).getD ((PL A m).length - 1 - j) 0 = m - (PL A m).getD j 0 := by
  have e : (PL A m).reverse[j]? = ((PL A m).map (m - ·))[j]? := by rw [PL_rev]
  rw [List.getElem?_reverse h, List.getElem?_map] at e
  rw [List.getD_eq_getElem?_getD, List.getD_eq_getElem?_getD, e, List.getElem?_eq_getElem h]
  rfl
theorem RL_split {A m : Nat} (h : 0 < m) : RL A m = if rsP A m 0 = true then 0 :: PL A m else PL A m := by
  obtain ⟨n, rfl⟩ : ∃ n, m = n + 1 := ⟨m - 1, by omega⟩
  unfold RL PL posL
  rw [List.range_succ_eq_map, List.filter_cons]
  rfl
theorem RL_opp {A m i : Nat} (hm0 : 0 < m) (hi : i < (RL A m).length) (hp : 0 < (RL A m).getD i 0) :
    (RL A m).length - 1 - i + skewN (RL A m) < (RL A m).length ∧ (RL A m).getD ((RL A m).length - 1 - i + skewN (RL A m)) 0 = m - (RL A m).getD i 0 := by
  rw [RL_split hm0] at hi hp ⊢
  by_cases g : rsP A m 0 = true
  · rw [if_pos g] at hi hp ⊢
    have hs : skewN (0 :: PL A m) = 1 := rfl
    rw [hs]
    simp only [List.length_cons] at hi ⊢
    cases i with
    | zero => simp at hp
    | succ j =>
      have hj : j < (PL A m).length := by omega
      have h := PL_opp hj
      refine ⟨by omega, ?_⟩
      rw [show (PL A m).length + 1 - 1 - (j + 1) + 1 = ((PL A m).length - 1 - j) + 1 by omega]
      exact h
  · rw [if_neg g] at hi hp ⊢
    have hs : skewN (PL A m) = 0 := by
      unfold skewN
      rw [if_neg]
      intro e
      have hm1 : (0 : Nat) ∈ PL A m := List.mem_of_mem_head? (by rw [e]; rfl)
      have := mem_posL (List.mem_filter.1 hm1).1
      omega
    rw [hs, Nat.add_zero]
    exact ⟨by omega, PL_opp hi⟩
theorem RL_lt {A m x : Nat} (h : x ∈ RL A m) : x < m := List.mem_range.1 (List.mem_filter.1 h).1
theorem RL_succ (A m i : Nat) : (List.range (i + 1)).filter (rsP A m) = (List.range i).filter (rsP A m) ++ (if i * i % m = A % m then [i] else []) := by
  rw [List.range_succ, List.filter_append]
  congr 1
  by_cases h : i * i % m = A % m
  · rw [if_pos h, List.filter_cons, if_pos (by simp [rsP, h])]; rfl
  · rw [if_neg h, List.filter_cons, if_neg (by simp [rsP, h])]; rfl
end Go.VM
set_option linter.unusedSimpArgs false
set_option linter.unusedVariables false
set_option maxRecDepth 100000
set_option maxHeartbeats 8000000
namespace Go.Proofs.Ytladcfeibpddeab
open Go.VM Go.RowKit

/-! ### lists of ints -/
abbrev ivs (l : List Nat) : List V := l.map fun (n : Nat) => iv (n : Int)
abbrev ints (t : Tok) (l : List Nat) : V := .sl t 1 (ivs l)
theorem rep_nilG {w : World} {M : Nat → Prop} {μ : Nat → Nat} {c : Nat} {ls : List V} {v : Value} (h : Rep w M μ c (.sl .nil 1 ls) v) : ls = [] := by
  generalize e : V.sl .nil 1 ls = x at h
  cases h with
  | nil tk sz => simp only [V.sl.injEq] at e; exact e.2.2
  | sl tk sz n cap a l' vs ht hn hc hs hMb hcap h1 hl =>
    simp only [V.sl.injEq] at e
    obtain ⟨rfl, rfl, rfl⟩ := e
    have h0 : cap * 1 = 0 := ht
    exact List.eq_nil_of_length_eq_zero (by omega)
  | any | lit | agg | tup => cases e
theorem void_tupI {l : List V} {x : List Nat} (hm0 : ints .nil x ∈ l) (hx : x ≠ []) : Void (.tup l) := by
  intro w M μ c v h
  have h : Rep w M μ c (.tup l) v := h
  cases h with
  | tup _ cs hn hl =>
    obtain ⟨j, hj⟩ := List.getElem?_of_mem hm0
    have hjl := (List.getElem?_eq_some_iff.1 hj).1
    have := hl j _ _ hj (Array.getElem?_eq_getElem (by omega))
    exact hx (List.map_eq_nil_iff.1 (rep_nilG this))
theorem l_ints {t : Tok} {l : List Nat} : vlen (ints t l) = some (iv (l.length : Int)) := by simp [vlen]
theorem ivs_get {l : List Nat} {i : Nat} (h : i < l.length) : (ivs l)[i]? = some (iv ((l.getD i 0 : Nat) : Int)) := by
  rw [List.getElem?_map, List.getElem?_eq_getElem h, List.getD_eq_getElem?_getD, List.getElem?_eq_getElem h]
  rfl
theorem ivs_solid (l : List Nat) : (ivs l).map V.solid = ivs l := by rw [List.map_map]; rfl
theorem t_cellI {σ : Nat → Option Blk} {cs : List V} {t i : Nat} {k : IntKind} {n : Int} : dstore (some ⟨cs, true⟩) σ t 1 i (.lit (.int k n)) = if i < cs.length then some (supd σ t (some ⟨cs.set i (.lit (.int k n)), true⟩)) else none := by
  have h0 : dstore (some ⟨cs, true⟩) σ t 1 i (.lit (.int k n)) = if true = true ∧ [V.lit (.int k n)].length = 1 ∧ i + 1 ≤ cs.length then some (supd σ t (some ⟨putCells cs i [.lit (.int k n)], true⟩)) else none := rfl
  rw [h0]
  by_cases h : i < cs.length
  · rw [if_pos h, if_pos ⟨rfl, rfl, by omega⟩]; rfl
  · rw [if_neg h, if_neg (by omega)]
section
variable {P : Program} {c0 : Nat} {ρ : Nat → V} {c i : Nat} {r : List VO} {K : VS → Prop} {σ : Nat → Option Blk} {dr : Bool}
theorem s_ints1 {x : X} {n : Nat} (h : x.ev ρ = iv (n : Int)) (hk : wps P dr c0 r ⟨upd ρ i (ints (.id c) [n]), σ, c + 1⟩ K) : wps P dr c0 (⟨some i, .bsl true 1 1 [.int .i64 0] [(0, (1, x))], none⟩ :: r) ⟨ρ, σ, c⟩ K := by
  refine s_eff rfl (by intros; exact fun h => by cases h) (by intros; exact fun h => by cases h) ⟨_, _, _, none, .bsl (cs := ivs [n]) ?_, hk⟩
  simp only [partsOf, List.map, h]
  rfl
theorem s_app0I {x y : X} {u : Tok} {ys : List Nat} (hx : x.ev ρ = nil1) (hy : y.ev ρ = ints u ys) (hq : 0 < ys.length) (hb : ys.length ≤ 1000000)
    (hk : wps P dr c0 r ⟨upd ρ i (.buf c 0 ys.length none 1), supd σ c (some ⟨ivs ys, true⟩), c + 1⟩ K) : wps P dr c0 (⟨some i, .app 1 8 [.int .i64 0] x y, none⟩ :: r) ⟨ρ, σ, c⟩ K := by
  have hc : vcells 1 σ (y.ev ρ) = some (ivs ys) := by rw [hy]; cases u <;> rfl
  exact s_eff rfl (by intros; exact fun h => by cases h) (by intros; exact fun h => by cases h) ⟨_, _, _, none, .appNil hx hc (k := ys.length) (by simp) hq (by omega) (by omega), hk⟩
theorem killσ_ivs (t : Nat) (ps : List Nat) (b : Bool) : killσ t (supd noBlk t (some ⟨ivs ps, b⟩)) = supd noBlk t (some ⟨ivs ps, b⟩) := by
  funext u
  unfold killσ
  by_cases e : u = t
  · subst e
    rw [supd_same]
    simp only [Option.map, List.map_map]
    rfl
  · rw [supd_ne _ _ _ _ e]; rfl
theorem s_appI {x y : X} {u : Tok} {t n : Nat} {cap : Option Nat} {ps qs : List Nat} (hx : x.ev ρ = .buf t 0 n cap 1) (h0 : c0 ≤ t) (hn : n = ps.length) (hy : y.ev ρ = ints u qs) (hb : ps.length + qs.length ≤ 1000000)
    (hk : wps P dr c0 r ⟨upd (kill (some (.inl t)) ρ) i (.buf t 0 (n + qs.length) none 1), supd noBlk t (some ⟨ivs (ps ++ qs), true⟩), c⟩ K) : wps P dr c0 (⟨some i, .app 1 8 [.int .i64 0] x y, none⟩ :: r) ⟨ρ, supd noBlk t (some ⟨ivs ps, true⟩), c⟩ K := by
  have hc : vcells 1 (supd noBlk t (some ⟨ivs ps, true⟩)) (y.ev ρ) = some (ivs qs) := by rw [hy]; cases u <;> rfl
  refine s_eff rfl (by intros; exact fun h => by cases h) (by intros; exact fun h => by cases h) ⟨_, _, _, some (.inl t), .appMove (k := qs.length) hx (supd_same _ _ _) h0 hc (by simp) (by simp [hn]) (by omega) (by omega), ?_⟩
  have e : ((ivs ps).take (n * 1) ++ ivs qs).map (killV t) = ivs (ps ++ qs) := by
    rw [Nat.mul_one, hn, List.take_of_length_le (by simp), ← List.map_append, List.map_map]
    rfl
  rw [e, killσ_ivs, supd_two]
  exact hk
end
theorem frz_ivs (ρ : Nat → V) (c i tb n : Nat) (w : List Nat) (hn : w.length = n) : Go.VM.frozen ⟨ρ, supd noBlk tb (some ⟨ivs w, true⟩), c⟩ i tb 0 1 (ivs w) ((((ivs w).drop 0).take (n * 1)).map V.solid) = ⟨upd ρ i (ints (.id tb) w), supd noBlk tb (some ⟨ivs w, false⟩), c⟩ := by
  rw [List.drop_zero, Nat.mul_one, List.take_of_length_le (by simp [hn]), ivs_solid]
  simp only [Go.VM.frozen, supd_two]
  rfl

/-- the answer of 'Roots' -/
def RootsR (c c' A0 m : Nat) (r : V) : Prop := ∃ tk, r = .tup [ints tk (RL A0 m), iv 0] ∧ Tk c c' tk
def Grown (S9 : V) (σ : Nat → Option Blk) (lo c : Nat) (w : List Nat) : Prop := (w = [] ∧ S9 = nil1 ∧ σ = noBlk) ∨ ∃ tb, S9 = .buf tb 0 w.length none 1 ∧ σ = supd noBlk tb (some ⟨ivs w, true⟩) ∧ lo ≤ tb ∧ tb < c
theorem Grown.mono {S9 : V} {σ : Nat → Option Blk} {lo c c' : Nat} {w : List Nat} (h : Grown S9 σ lo c w) (hc : c ≤ c') : Grown S9 σ lo c' w := by
  rcases h with h | ⟨tb, h1, h2, h3, h4⟩
  · exact .inl h
  · exact .inr ⟨tb, h1, h2, h3, by omega⟩
theorem ivs_len (A i m : Nat) (h : i ≤ m) (hm1 : m ≤ 65536) : ((List.range i).filter (rsP A m)).length ≤ 65536 := by
  have := List.length_filter_le (rsP A m) (List.range i)
  rw [List.length_range] at this
  omega

theorem rootsI_spec (t : Tok) (a : List Nat) (m : Int) (c : Nat) (ha : Lim 18446744073709551616 a) (hna : a.length ≤ 1099511627776) (hb : bl (val 18446744073709551616 a) ≤ 67108864) :
    VSpec Try.prog F.roots_Roots c [nats t a, iv m] (fun r c' => ((m < 1 ∨ 65536 < m) → r = .tup [nil1, iv 1]) ∧ (1 ≤ m → m ≤ 65536 → RootsR c c' (val 18446744073709551616 a) m.toNat r)) := by
  refine spec_mk hm E.roots_Roots B.roots_Roots K.roots_Roots Q.roots_Roots (by rw [N.roots_Roots]; simp) ?_
  unfold C.roots_Roots R.roots_Roots
  by_cases g1 : m < 1
  · (repeat (first | refine v_reg ?_ | refine v_last ?_ | refine vwp_seq ?_ | refine vwp_block ?_ | refine vwp_skip ?_ | refine vwp_exit ?_ | refine vwp_ret ?_ | refine v_cond ?_ | simp only [vm, ite_true, ite_false, eq_self, reduceIte, Nat.reduceEqDiff, Option.map, g1] | refine And.intro (by omega) ?_))
    exact ⟨fun _ => trivial, fun h => by omega⟩
  by_cases g2 : (65536 : Int) < m
  · (repeat (first | refine v_reg ?_ | refine v_last ?_ | refine vwp_seq ?_ | refine vwp_block ?_ | refine vwp_skip ?_ | refine vwp_exit ?_ | refine vwp_ret ?_ | refine v_cond ?_ | simp only [vm, ite_true, ite_false, eq_self, reduceIte, Nat.reduceEqDiff, Option.map, g1, g2] | refine And.intro (by omega) ?_))
    exact ⟨fun _ => trivial, fun h => by omega⟩
  obtain ⟨m, rfl⟩ : ∃ n : Nat, m = (n : Int) := ⟨m.toNat, by omega⟩
  have e0 : ((m : Int)).toNat = m := by omega
  have hm0 : 0 < m := by omega
  have hm1 : m ≤ 65536 := by omega
  (repeat (first | refine v_reg ?_ | refine v_last ?_ | refine vwp_seq ?_ | refine vwp_block ?_ | refine vwp_skip ?_ | refine vwp_exit ?_ | refine vwp_ret ?_ | refine v_cond ?_ | simp only [vm, ite_true, ite_false, eq_self, reduceIte, Nat.reduceEqDiff, Option.map, g1, g2, e0] | refine And.intro (by omega) ?_))
  refine s_call (through_spec t a m c ha (by omega) hna) (by simp only [vm, ite_true, ite_false, eq_self, reduceIte, Nat.reduceEqDiff, Option.map, List.map]) ?_
  rintro v c1 hc1 ⟨_, h, _⟩
  obtain ⟨t1, rfl, _⟩ := h hm0 (Nat.le_trans (bl_mono (Nat.div_le_self _ _)) hb)
  (repeat (first | refine v_reg ?_ | refine v_last ?_ | refine vwp_seq ?_ | refine vwp_block ?_ | refine vwp_skip ?_ | refine vwp_exit ?_ | refine vwp_ret ?_ | refine v_cond ?_ | simp only [vm, ite_true, ite_false, eq_self, reduceIte, Nat.reduceEqDiff, Option.map] | refine And.intro (by omega) ?_))
  refine v_loop (fun S => Grown (S.ρ 9) S.σ c1 S.c (RL (val 18446744073709551616 a) m) ∧ c1 ≤ S.c) ?_ ?_
  · refine vwp_loop (fun q S => ∃ i, q = m - i ∧ i ≤ m ∧ S.ρ 1 = iv (m : Int) ∧ S.ρ 7 = nv (val 18446744073709551616 a % m) ∧ S.ρ 25 = iv (m : Int) ∧ S.ρ 26 = iv (i : Int) ∧ Grown (S.ρ 9) S.σ c1 S.c ((List.range i).filter (rsP (val 18446744073709551616 a) m)) ∧ c1 ≤ S.c) m ?_ ?_
    · exact ⟨0, by omega, by omega, rfl, rfl, rfl, rfl, .inl ⟨rfl, rfl, rfl⟩, Nat.le_refl _⟩
    rintro q ⟨ρ2, σ, c4⟩ ⟨i, hq, hi, h1, h7, h25, h26, hgr, hc4⟩
    dsimp only at h1 h7 h25 h26 hgr hc4
    by_cases g : (i : Int) < m
    · have hii := sq_lt (i := i) (m := m) (by omega) hm1
      have hlt : i * i % m < 65536 := Nat.lt_of_lt_of_le (Nat.mod_lt _ hm0) hm1
      have e1 : (i : Int) * (i : Int) = ((i * i : Nat) : Int) := (Int.natCast_mul _ _).symm
      have e2 : ((i * i : Nat) : Int) % (m : Int) = ((i * i % m : Nat) : Int) := (Int.natCast_emod _ _).symm
      have e3 : (i : Int) + 1 = ((i + 1 : Nat) : Int) := by omega
      have hsucc := RL_succ (val 18446744073709551616 a) m i
      have hwl := ivs_len (val 18446744073709551616 a) i m hi hm1
      obtain ⟨w, hw⟩ : ∃ w, w = (List.range i).filter (rsP (val 18446744073709551616 a) m) := ⟨_, rfl⟩
      rw [← hw] at hgr hsucc hwl
      by_cases g3 : i * i % m = val 18446744073709551616 a % m
      · rw [if_pos g3] at hsucc
        generalize i * i = ii at *
        rcases hgr with ⟨hw0, h9, hσ⟩ | ⟨tb, h9, hσ, htb, htb2⟩
        · rw [hw0] at hsucc
          subst hσ
          (repeat (first | refine v_reg ?_ | refine v_last ?_ | refine vwp_seq ?_ | refine vwp_block ?_ | refine vwp_skip ?_ | refine vwp_exit ?_ | refine vwp_ret ?_ | refine v_cond ?_ | simp only [vm, ite_true, ite_false, eq_self, reduceIte, Nat.reduceEqDiff, Option.map, h1, h7, h9, h25, h26, g, e1, e2, e3, g3] | refine And.intro (by omega) ?_))
          refine s_ints1 (n := i) (by simp only [vm, ite_true, ite_false, eq_self, reduceIte, Nat.reduceEqDiff, Option.map]) ?_
          refine s_app0I (u := .id c4) (ys := [i]) (by simp only [vm, ite_true, ite_false, eq_self, reduceIte, Nat.reduceEqDiff, Option.map, h9]) (by simp only [vm, ite_true, ite_false, eq_self, reduceIte, Nat.reduceEqDiff, Option.map]) (Nat.zero_lt_one) (by simp) ?_
          (repeat (first | refine v_reg ?_ | refine v_last ?_ | refine vwp_seq ?_ | refine vwp_block ?_ | refine vwp_skip ?_ | refine vwp_exit ?_ | refine vwp_ret ?_ | refine v_cond ?_ | simp only [vm, ite_true, ite_false, eq_self, reduceIte, Nat.reduceEqDiff, Option.map, h1, h7, h25, h26, e3] | refine And.intro (by omega) ?_))
          exact ⟨m - (i + 1), by omega, i + 1, rfl, by omega, rfl, by rw [hsucc]; exact .inr ⟨c4 + 1, rfl, rfl, by omega, by omega⟩, by omega⟩
        · subst hσ
          (repeat (first | refine v_reg ?_ | refine v_last ?_ | refine vwp_seq ?_ | refine vwp_block ?_ | refine vwp_skip ?_ | refine vwp_exit ?_ | refine vwp_ret ?_ | refine v_cond ?_ | simp only [vm, ite_true, ite_false, eq_self, reduceIte, Nat.reduceEqDiff, Option.map, h1, h7, h9, h25, h26, g, e1, e2, e3, g3] | refine And.intro (by omega) ?_))
          refine s_ints1 (n := i) (by simp only [vm, ite_true, ite_false, eq_self, reduceIte, Nat.reduceEqDiff, Option.map]) ?_
          refine s_appI (u := .id c4) (n := w.length) (cap := none) (ps := w) (qs := [i]) (by simp only [vm, ite_true, ite_false, eq_self, reduceIte, Nat.reduceEqDiff, Option.map, h9]) (by omega) rfl (by simp only [vm, ite_true, ite_false, eq_self, reduceIte, Nat.reduceEqDiff, Option.map]) (by simp; omega) ?_
          (repeat (first | refine v_reg ?_ | refine v_last ?_ | refine vwp_seq ?_ | refine vwp_block ?_ | refine vwp_skip ?_ | refine vwp_exit ?_ | refine vwp_ret ?_ | refine v_cond ?_ | simp only [vm, ite_true, ite_false, eq_self, reduceIte, Nat.reduceEqDiff, Option.map, killR_at, killR_lit, h1, h7, h25, h26, e3] | refine And.intro (by omega) ?_))
          exact ⟨m - (i + 1), by omega, i + 1, rfl, by omega, rfl, by rw [hsucc]; exact .inr ⟨tb, by simp, rfl, htb, by omega⟩, by omega⟩
      · rw [if_neg g3, List.append_nil] at hsucc
        generalize i * i = ii at *
        (repeat (first | refine v_reg ?_ | refine v_last ?_ | refine vwp_seq ?_ | refine vwp_block ?_ | refine vwp_skip ?_ | refine vwp_exit ?_ | refine vwp_ret ?_ | refine v_cond ?_ | simp only [vm, ite_true, ite_false, eq_self, reduceIte, Nat.reduceEqDiff, Option.map, h1, h7, h25, h26, g, e1, e2, e3, g3] | refine And.intro (by omega) ?_))
        exact ⟨m - (i + 1), by omega, i + 1, rfl, by omega, rfl, by rw [hsucc]; exact hgr, hc4⟩
    · have him : i = m := by omega
      subst him
      (repeat (first | refine v_reg ?_ | refine v_last ?_ | refine vwp_seq ?_ | refine vwp_block ?_ | refine vwp_skip ?_ | refine vwp_exit ?_ | refine vwp_ret ?_ | refine v_cond ?_ | simp only [vm, ite_true, ite_false, eq_self, reduceIte, Nat.reduceEqDiff, Option.map, h1, h7, h25, h26, g] | refine And.intro (by omega) ?_))
      exact ⟨hgr, hc4⟩
  rintro ⟨ρ3, σ, c5⟩ ⟨hgr, hc5⟩
  dsimp only at hgr hc5
  rcases hgr with ⟨hw0, h9, hσ⟩ | ⟨tb, h9, hσ, htb, htb2⟩
  · (repeat (first | refine v_reg ?_ | refine v_last ?_ | refine vwp_seq ?_ | refine vwp_block ?_ | refine vwp_skip ?_ | refine vwp_exit ?_ | refine vwp_ret ?_ | refine v_cond ?_ | simp only [vm, ite_true, ite_false, eq_self, reduceIte, Nat.reduceEqDiff, Option.map, h9] | refine And.intro (by omega) ?_))
    exact ⟨fun h => by rcases h with h | h <;> first | exact h.elim | omega, fun _ _ => ⟨.nil, by rw [hw0]; rfl, .inl rfl⟩⟩
  · subst hσ
    refine vwp_freeze 9 tb 0 (RL (val 18446744073709551616 a) m).length 1 none (ivs (RL (val 18446744073709551616 a) m)) h9 (supd_same _ _ _) (by omega) (by simp) ?_
    rw [frz_ivs _ _ _ _ _ _ rfl]
    (repeat (first | refine v_reg ?_ | refine v_last ?_ | refine vwp_seq ?_ | refine vwp_block ?_ | refine vwp_skip ?_ | refine vwp_exit ?_ | refine vwp_ret ?_ | refine v_cond ?_ | simp only [vm, ite_true, ite_false, eq_self, reduceIte, Nat.reduceEqDiff, Option.map] | refine And.intro (by omega) ?_))
    exact ⟨fun h => by rcases h with h | h <;> first | exact h.elim | omega, fun _ _ => ⟨.id tb, rfl, .inr ⟨tb, rfl, by omega, by omega⟩⟩⟩

theorem roots04_spec (t : Tok) (A0 : Nat) (m : Int) (c : Nat) (hA : bl A0 ≤ 67108864) :
    VSpec Try.prog F.surdref04_Roots c [nats t (digs 4294967296 A0), iv m] (fun r c' => ((m < 1 ∨ 65536 < m) → r = .tup [nil1, iv 1]) ∧ (1 ≤ m → m ≤ 65536 → RootsR c c' A0 m.toNat r)) := by
  refine spec_mk hm E.surdref04_Roots B.surdref04_Roots K.surdref04_Roots Q.surdref04_Roots (by rw [N.surdref04_Roots]; simp) ?_
  unfold C.surdref04_Roots R.surdref04_Roots
  by_cases g1 : m < 1
  · (repeat (first | refine v_reg ?_ | refine v_last ?_ | refine vwp_seq ?_ | refine vwp_block ?_ | refine vwp_skip ?_ | refine vwp_exit ?_ | refine vwp_ret ?_ | refine v_cond ?_ | simp only [vm, ite_true, ite_false, eq_self, reduceIte, Nat.reduceEqDiff, Option.map, g1] | refine And.intro (by omega) ?_))
    exact ⟨fun _ => trivial, fun h => by omega⟩
  by_cases g2 : (65536 : Int) < m
  · (repeat (first | refine v_reg ?_ | refine v_last ?_ | refine vwp_seq ?_ | refine vwp_block ?_ | refine vwp_skip ?_ | refine vwp_exit ?_ | refine vwp_ret ?_ | refine v_cond ?_ | simp only [vm, ite_true, ite_false, eq_self, reduceIte, Nat.reduceEqDiff, Option.map, g1, g2] | refine And.intro (by omega) ?_))
    exact ⟨fun _ => trivial, fun h => by omega⟩
  obtain ⟨m, rfl⟩ : ∃ n : Nat, m = (n : Int) := ⟨m.toNat, by omega⟩
  have e0 : ((m : Int)).toNat = m := by omega
  have hm0 : 0 < m := by omega
  have hm1 : m ≤ 65536 := by omega
  have hbm : bl m ≤ 17 := bl_le (by omega)
  (repeat (first | refine v_reg ?_ | refine v_last ?_ | refine vwp_seq ?_ | refine vwp_block ?_ | refine vwp_skip ?_ | refine vwp_exit ?_ | refine vwp_ret ?_ | refine v_cond ?_ | simp only [vm, ite_true, ite_false, eq_self, reduceIte, Nat.reduceEqDiff, Option.map, g1, g2, e0] | refine And.intro (by omega) ?_))
  refine s_call (intR m c (by omega)) (by simp only [vm, ite_true, ite_false, eq_self, reduceIte, Nat.reduceEqDiff, Option.map, List.map]) ?_
  rintro v c1 hc1 ⟨j1, rfl, _, _⟩
  (repeat (first | refine v_reg ?_ | refine v_last ?_ | refine vwp_seq ?_ | refine vwp_block ?_ | refine vwp_skip ?_ | refine vwp_exit ?_ | refine vwp_ret ?_ | refine v_cond ?_ | simp only [vm, ite_true, ite_false, eq_self, reduceIte, Nat.reduceEqDiff, Option.map] | refine And.intro (by omega) ?_))
  refine s_call (div32_spec t (.id j1) A0 m c1 hA (by omega) hm0) (by simp only [vm, ite_true, ite_false, eq_self, reduceIte, Nat.reduceEqDiff, Option.map, List.map]) ?_
  rintro v c2 hc2 ⟨t1, t2, rfl⟩
  have hrm : A0 % m < m := Nat.mod_lt _ hm0
  have hbr : bl (A0 % m) ≤ 17 := Nat.le_trans (bl_mono (Nat.le_of_lt hrm)) hbm
  (repeat (first | refine v_reg ?_ | refine v_last ?_ | refine vwp_seq ?_ | refine vwp_block ?_ | refine vwp_skip ?_ | refine vwp_exit ?_ | refine vwp_ret ?_ | refine v_cond ?_ | simp only [vm, ite_true, ite_false, eq_self, reduceIte, Nat.reduceEqDiff, Option.map] | refine And.intro (by omega) ?_))
  refine v_loop (fun S => Grown (S.ρ 8) S.σ c2 S.c (RL A0 m) ∧ c2 ≤ S.c) ?_ ?_
  · refine vwp_loop (fun q S => ∃ i, q = m - i ∧ i ≤ m ∧ S.ρ 1 = iv (m : Int) ∧ S.ρ 7 = nats t2 (digs 4294967296 (A0 % m)) ∧ S.ρ 9 = iv (i : Int) ∧ Grown (S.ρ 8) S.σ c2 S.c ((List.range i).filter (rsP A0 m)) ∧ c2 ≤ S.c) m ?_ ?_
    · exact ⟨0, by omega, by omega, rfl, rfl, rfl, .inl ⟨rfl, rfl, rfl⟩, Nat.le_refl _⟩
    rintro q ⟨ρ2, σ, c4⟩ ⟨i, hq, hi, h1, h7, h9, hgr, hc4⟩
    dsimp only at h1 h7 h9 hgr hc4
    by_cases g : (i : Int) < m
    · have hii := sq_lt (i := i) (m := m) (by omega) hm1
      have hlt : i * i % m < m := Nat.mod_lt _ hm0
      have hbi : bl (i * i % m) ≤ 17 := Nat.le_trans (bl_mono (Nat.le_of_lt hlt)) hbm
      have e1 : (i : Int) * (i : Int) = ((i * i : Nat) : Int) := (Int.natCast_mul _ _).symm
      have e2 : ((i * i : Nat) : Int) % (m : Int) = ((i * i % m : Nat) : Int) := (Int.natCast_emod _ _).symm
      have e3 : (i : Int) + 1 = ((i + 1 : Nat) : Int) := by omega
      have hsucc := RL_succ A0 m i
      have hwl := ivs_len A0 i m hi hm1
      obtain ⟨w, hw⟩ : ∃ w, w = (List.range i).filter (rsP A0 m) := ⟨_, rfl⟩
      rw [← hw] at hgr hsucc hwl
      (repeat (first | refine v_reg ?_ | refine v_last ?_ | refine vwp_seq ?_ | refine vwp_block ?_ | refine vwp_skip ?_ | refine vwp_exit ?_ | refine vwp_ret ?_ | refine v_cond ?_ | simp only [vm, ite_true, ite_false, eq_self, reduceIte, Nat.reduceEqDiff, Option.map, h1, h7, h9, g, e1, e2] | refine And.intro (by omega) ?_))
      refine s_call (intR (i * i % m) c4 (by omega)) (by simp only [vm, ite_true, ite_false, eq_self, reduceIte, Nat.reduceEqDiff, Option.map, List.map]) ?_
      rintro v c5 hc5 ⟨j5, rfl, _, _⟩
      (repeat (first | refine v_reg ?_ | refine v_last ?_ | refine vwp_seq ?_ | refine vwp_block ?_ | refine vwp_skip ?_ | refine vwp_exit ?_ | refine vwp_ret ?_ | refine v_cond ?_ | simp only [vm, ite_true, ite_false, eq_self, reduceIte, Nat.reduceEqDiff, Option.map, h1, h7, h9] | refine And.intro (by omega) ?_))
      refine s_call (cmpR (.id j5) t2 (i * i % m) (A0 % m) c5 (by omega) (by omega)) (by simp only [vm, ite_true, ite_false, eq_self, reduceIte, Nat.reduceEqDiff, Option.map, List.map]) ?_
      rintro v c6 hc6 rfl
      by_cases g3 : i * i % m = A0 % m
      · rw [if_pos g3] at hsucc
        have g4 : cmpI (i * i % m) (A0 % m) = 0 := cmpI_zero.2 g3
        rcases hgr with ⟨hw0, h8, hσ⟩ | ⟨tb, h8, hσ, htb, htb2⟩
        · rw [hw0] at hsucc
          subst hσ
          (repeat (first | refine v_reg ?_ | refine v_last ?_ | refine vwp_seq ?_ | refine vwp_block ?_ | refine vwp_skip ?_ | refine vwp_exit ?_ | refine vwp_ret ?_ | refine v_cond ?_ | simp only [vm, ite_true, ite_false, eq_self, reduceIte, Nat.reduceEqDiff, Option.map, h1, h7, h8, h9, e3, g4] | refine And.intro (by omega) ?_))
          refine s_ints1 (n := i) (by simp only [vm, ite_true, ite_false, eq_self, reduceIte, Nat.reduceEqDiff, Option.map]) ?_
          refine s_app0I (u := .id c6) (ys := [i]) (by simp only [vm, ite_true, ite_false, eq_self, reduceIte, Nat.reduceEqDiff, Option.map, h8]) (by simp only [vm, ite_true, ite_false, eq_self, reduceIte, Nat.reduceEqDiff, Option.map]) (Nat.zero_lt_one) (by simp) ?_
          (repeat (first | refine v_reg ?_ | refine v_last ?_ | refine vwp_seq ?_ | refine vwp_block ?_ | refine vwp_skip ?_ | refine vwp_exit ?_ | refine vwp_ret ?_ | refine v_cond ?_ | simp only [vm, ite_true, ite_false, eq_self, reduceIte, Nat.reduceEqDiff, Option.map, h1, h7, h9, e3] | refine And.intro (by omega) ?_))
          exact ⟨m - (i + 1), by omega, i + 1, rfl, by omega, rfl, by rw [hsucc]; exact .inr ⟨c6 + 1, rfl, rfl, by omega, by omega⟩, by omega⟩
        · subst hσ
          (repeat (first | refine v_reg ?_ | refine v_last ?_ | refine vwp_seq ?_ | refine vwp_block ?_ | refine vwp_skip ?_ | refine vwp_exit ?_ | refine vwp_ret ?_ | refine v_cond ?_ | simp only [vm, ite_true, ite_false, eq_self, reduceIte, Nat.reduceEqDiff, Option.map, h1, h7, h8, h9, e3, g4] | refine And.intro (by omega) ?_))
          refine s_ints1 (n := i) (by simp only [vm, ite_true, ite_false, eq_self, reduceIte, Nat.reduceEqDiff, Option.map]) ?_
          refine s_appI (u := .id c6) (n := w.length) (cap := none) (ps := w) (qs := [i]) (by simp only [vm, ite_true, ite_false, eq_self, reduceIte, Nat.reduceEqDiff, Option.map, h8]) (by omega) rfl (by simp only [vm, ite_true, ite_false, eq_self, reduceIte, Nat.reduceEqDiff, Option.map]) (by simp; omega) ?_
          (repeat (first | refine v_reg ?_ | refine v_last ?_ | refine vwp_seq ?_ | refine vwp_block ?_ | refine vwp_skip ?_ | refine vwp_exit ?_ | refine vwp_ret ?_ | refine v_cond ?_ | simp only [vm, ite_true, ite_false, eq_self, reduceIte, Nat.reduceEqDiff, Option.map, killR_at, killR_lit, killR_sl, h1, h7, h9, e3] | refine And.intro (by omega) ?_))
          exact ⟨m - (i + 1), by omega, i + 1, rfl, by omega, rfl, by rw [hsucc]; exact .inr ⟨tb, by simp, rfl, htb, by omega⟩, by omega⟩
      · rw [if_neg g3, List.append_nil] at hsucc
        have g4 : ¬ cmpI (i * i % m) (A0 % m) = 0 := fun h => g3 (cmpI_zero.1 h)
        (repeat (first | refine v_reg ?_ | refine v_last ?_ | refine vwp_seq ?_ | refine vwp_block ?_ | refine vwp_skip ?_ | refine vwp_exit ?_ | refine vwp_ret ?_ | refine v_cond ?_ | simp only [vm, ite_true, ite_false, eq_self, reduceIte, Nat.reduceEqDiff, Option.map, h1, h7, h9, e3, g4] | refine And.intro (by omega) ?_))
        exact ⟨m - (i + 1), by omega, i + 1, rfl, by omega, rfl, by rw [hsucc]; exact hgr.mono (by omega), by omega⟩
    · have him : i = m := by omega
      subst him
      (repeat (first | refine v_reg ?_ | refine v_last ?_ | refine vwp_seq ?_ | refine vwp_block ?_ | refine vwp_skip ?_ | refine vwp_exit ?_ | refine vwp_ret ?_ | refine v_cond ?_ | simp only [vm, ite_true, ite_false, eq_self, reduceIte, Nat.reduceEqDiff, Option.map, h1, h7, h9, g] | refine And.intro (by omega) ?_))
      exact ⟨hgr, hc4⟩
  rintro ⟨ρ3, σ, c5⟩ ⟨hgr, hc5⟩
  dsimp only at hgr hc5
  rcases hgr with ⟨hw0, h8, hσ⟩ | ⟨tb, h8, hσ, htb, htb2⟩
  · (repeat (first | refine v_reg ?_ | refine v_last ?_ | refine vwp_seq ?_ | refine vwp_block ?_ | refine vwp_skip ?_ | refine vwp_exit ?_ | refine vwp_ret ?_ | refine v_cond ?_ | simp only [vm, ite_true, ite_false, eq_self, reduceIte, Nat.reduceEqDiff, Option.map, h8] | refine And.intro (by omega) ?_))
    exact ⟨fun h => by rcases h with h | h <;> first | exact h.elim | omega, fun _ _ => ⟨.nil, by rw [hw0]; rfl, .inl rfl⟩⟩
  · subst hσ
    refine vwp_freeze 8 tb 0 (RL A0 m).length 1 none (ivs (RL A0 m)) h8 (supd_same _ _ _) (by omega) (by simp) ?_
    rw [frz_ivs _ _ _ _ _ _ rfl]
    (repeat (first | refine v_reg ?_ | refine v_last ?_ | refine vwp_seq ?_ | refine vwp_block ?_ | refine vwp_skip ?_ | refine vwp_exit ?_ | refine vwp_ret ?_ | refine v_cond ?_ | simp only [vm, ite_true, ite_false, eq_self, reduceIte, Nat.reduceEqDiff, Option.map] | refine And.intro (by omega) ?_))
    exact ⟨fun h => by rcases h with h | h <;> first | exact h.elim | omega, fun _ _ => ⟨.id tb, rfl, .inr ⟨tb, rfl, by omega, by omega⟩⟩⟩

theorem skew_spec (t : Tok) (l : List Nat) (c : Nat) : VSpec Try.prog F.surdlaw04_skew c [ints t l] (fun r _ => r = iv ((skewN l : Nat) : Int)) := by
  refine spec_mk hm E.surdlaw04_skew B.surdlaw04_skew K.surdlaw04_skew Q.surdlaw04_skew (by rw [N.surdlaw04_skew]; simp) ?_
  unfold C.surdlaw04_skew R.surdlaw04_skew
  cases l with
  | nil =>
    have z0 : ¬ (0 : Int) < 0 := by decide
    have hl0 : vlen (ints t []) = some (iv 0) := rfl
    have hl1 : vlen (.sl t 1 []) = some (iv 0) := rfl
    (repeat (first | refine v_reg ?_ | refine v_last ?_ | refine vwp_seq ?_ | refine vwp_block ?_ | refine vwp_skip ?_ | refine vwp_exit ?_ | refine vwp_ret ?_ | refine v_cond ?_ | simp only [vm, ite_true, ite_false, eq_self, reduceIte, Nat.reduceEqDiff, Option.map, hl0, hl1, z0] | refine And.intro (by omega) ?_))
    rfl
  | cons x r =>
    have g1 : (0 : Int) < ((x :: r).length : Int) := by rw [List.length_cons]; omega
    have hl : (ivs (x :: r)).length = (x :: r).length := by simp
    have hg : (ivs (x :: r))[(0 : Int).toNat]? = some (iv (x : Int)) := rfl
    have g2 : (0 : Int).toNat < (x :: r).length := by simp
    by_cases g : (x : Int) = 0
    · have hx : x = 0 := by omega
      (repeat (first | refine v_reg ?_ | refine v_last ?_ | refine vwp_seq ?_ | refine vwp_block ?_ | refine vwp_skip ?_ | refine vwp_exit ?_ | refine vwp_ret ?_ | refine v_cond ?_ | simp only [vm, ite_true, ite_false, eq_self, reduceIte, Nat.reduceEqDiff, Option.map, l_ints, g1, a_rows, d_rows, hl, hg, g, g2] | refine And.intro (by omega) ?_))
      rw [hx]; rfl
    · have hs : skewN (x :: r) = 0 := by
        unfold skewN
        rw [if_neg]
        intro e
        simp at e
        omega
      (repeat (first | refine v_reg ?_ | refine v_last ?_ | refine vwp_seq ?_ | refine vwp_block ?_ | refine vwp_skip ?_ | refine vwp_exit ?_ | refine vwp_ret ?_ | refine v_cond ?_ | simp only [vm, ite_true, ite_false, eq_self, reduceIte, Nat.reduceEqDiff, Option.map, l_ints, g1, a_rows, d_rows, hl, hg, g, g2] | refine And.intro (by omega) ?_))
      rw [hs]; rfl
end Go.Proofs.Ytladcfeibpddeab
set_option linter.unusedSimpArgs false
set_option linter.unusedVariables false
set_option maxRecDepth 100000
set_option maxHeartbeats 8000000
namespace Go.Proofs.Ytladcfeibpddeab
open Go.VM

def RootsO (c c' A0 m : Nat) (r : V) : Prop := ∃ tk, r = .tup [ints tk (RL A0 m), iv 0] ∧ Row1 c c' tk (RL A0 m)
theorem rootsI_own (t : Tok) (a : List Nat) (m : Int) (c : Nat) (ha : Lim 18446744073709551616 a) (hna : a.length ≤ 1099511627776) (hb : bl (val 18446744073709551616 a) ≤ 67108864) :
    VSpec Try.prog F.roots_Roots c [nats t a, iv m] (fun r c' => ((m < 1 ∨ 65536 < m) → r = .tup [nil1, iv 1]) ∧ (1 ≤ m → m ≤ 65536 → RootsO c c' (val 18446744073709551616 a) m.toNat r)) := by
  refine VSpec.clean (rootsI_spec t a m c ha hna hb) fun r c' hc ⟨h1, h2⟩ => ?_
  by_cases g : 1 ≤ m ∧ m ≤ 65536
  · obtain ⟨tk, rfl, htk⟩ := h2 g.1 g.2
    rcases tk_nil_or (RL (val 18446744073709551616 a) m.toNat) htk with g2 | ⟨rfl, g2⟩
    · exact .inl ⟨h1, fun _ _ => ⟨tk, rfl, g2⟩⟩
    · exact .inr ⟨void_tupI (by simp) g2, _, c + 1, by omega, fun h => by omega, fun _ _ => ⟨.id c, rfl, .inr ⟨c, rfl, by omega, by omega⟩⟩⟩
  · exact .inl ⟨h1, fun h3 h4 => absurd ⟨h3, h4⟩ g⟩
theorem thaw_ints {q : Nat} {t : Tok} {l : List Nat} (h : t.apart q = true) : V.thaw q (ints t l) = ints t l := by
  unfold V.thaw
  rw [if_pos]
  simp only [V.still, Bool.and_eq_true, List.all_eq_true, List.mem_map]
  refine ⟨h, ?_⟩
  rintro x ⟨n, _, rfl⟩
  rfl
theorem apart_row {lo hi q : Nat} {t : Tok} {l : List Nat} (h : Row1 lo hi t l) (hq : q < lo) : t.apart q = true := by
  rcases h with ⟨rfl, _⟩ | ⟨j, rfl, h, _⟩
  · rfl
  · exact beq_no (by omega)
theorem apart_tk {lo hi q : Nat} {t : Tok} (h : Tk lo hi t) (hq : q < lo) : t.apart q = true := by
  rcases h with rfl | ⟨j, rfl, h, _⟩
  · rfl
  · exact beq_no (by omega)
theorem thawed_noI (ρ : Nat → V) (c i t n sz : Nat) (l : List V) : Go.VM.thawed ⟨ρ, noBlk, c⟩ i t n sz l = ⟨upd (fun j => (ρ j).thaw t) i (.buf t 0 n none sz), supd noBlk t (some ⟨l, true⟩), c⟩ := by
  simp only [Go.VM.thawed]
  congr 1
/-- the list, written over up to i -/
def overL (l : List Nat) (i : Nat) : List V := List.replicate i (iv (-1)) ++ (ivs l).drop i
theorem overL_len {l : List Nat} {i : Nat} (h : i ≤ l.length) : (overL l i).length = l.length := by simp [overL]; omega
theorem overL_get {l : List Nat} {i : Nat} (h : i < l.length) : (overL l i)[i]? = some (iv ((l.getD i 0 : Nat) : Int)) := by
  unfold overL
  rw [List.getElem?_append_right (by simp), List.length_replicate, Nat.sub_self, List.getElem?_drop, Nat.add_zero]
  exact ivs_get h
theorem overL_set {l : List Nat} {i : Nat} (h : i < l.length) : (overL l i).set i (iv (-1)) = overL l (i + 1) := by
  refine List.ext_getElem? fun j => ?_
  rw [List.getElem?_set, overL_len (Nat.le_of_lt h)]
  unfold overL
  by_cases e : i = j
  · subst e
    rw [if_pos rfl, if_pos h, List.getElem?_append_left (by simp), List.getElem?_replicate, if_pos (by omega)]
  · rw [if_neg e]
    rcases Nat.lt_or_ge j i with g | g
    · rw [List.getElem?_append_left (by simp; omega), List.getElem?_append_left (by simp; omega), List.getElem?_replicate, List.getElem?_replicate, if_pos g, if_pos (by omega)]
    · rw [List.getElem?_append_right (by simp; omega), List.getElem?_append_right (by simp; omega), List.length_replicate, List.length_replicate, List.getElem?_drop, List.getElem?_drop]
      congr 1
      omega
theorem isRes_RL {A m : Nat} : isRes A m = decide (0 < (RL A m).length) := by
  rw [Bool.eq_iff_iff, isRes_iff, decide_eq_true_eq]
  constructor
  · rintro ⟨i, h1, h2⟩
    have : i ∈ RL A m := List.mem_filter.2 ⟨List.mem_range.2 h1, by simp [rsP, h2]⟩
    exact List.length_pos_of_mem this
  · intro h
    obtain ⟨x, hx⟩ := List.exists_mem_of_length_pos h
    obtain ⟨h1, h2⟩ := List.mem_filter.1 hx
    exact ⟨x, List.mem_range.1 h1, by simpa [rsP] using h2⟩

theorem lists_law (t : Tok) (a : List Nat) (m : Int) (c : Nat) (ha : Lim 18446744073709551616 a) (hna : a.length ≤ 1048576) (hk1 : -9223372036854775808 ≤ m) (hk2 : m < 9223372036854775808) :
    VSpec Try.prog F.surdlaw04_RootLists c [nats t a, iv m] (fun r _ => r = bv true) := by
  refine spec_mk hm E.surdlaw04_RootLists B.surdlaw04_RootLists K.surdlaw04_RootLists Q.surdlaw04_RootLists (by rw [N.surdlaw04_RootLists]; simp) ?_
  unfold C.surdlaw04_RootLists R.surdlaw04_RootLists
  have hbA : bl (val 18446744073709551616 a) ≤ 67108864 := by
    have h1 := val_lt ha
    rw [pow64] at h1
    exact Nat.le_trans (bl_le h1) (by omega)
  have z0 : ¬ (0 : Int) < 0 := by decide
  (repeat (first | refine v_reg ?_ | refine v_last ?_ | refine vwp_seq ?_ | refine vwp_block ?_ | refine vwp_skip ?_ | refine vwp_exit ?_ | refine vwp_ret ?_ | refine v_cond ?_ | simp only [vm, ite_true, ite_false, eq_self, reduceIte, Nat.reduceEqDiff, Option.map] | refine And.intro (by omega) ?_))
  refine s_call (lend_spec t a c ha (by omega)) (by simp only [vm, ite_true, ite_false, eq_self, reduceIte, Nat.reduceEqDiff, Option.map, List.map]) ?_
  rintro v c1 hc1 ⟨iw, rfl, hiw, hiw2⟩
  (repeat (first | refine v_reg ?_ | refine v_last ?_ | refine vwp_seq ?_ | refine vwp_block ?_ | refine vwp_skip ?_ | refine vwp_exit ?_ | refine vwp_ret ?_ | refine v_cond ?_ | simp only [vm, ite_true, ite_false, eq_self, reduceIte, Nat.reduceEqDiff, Option.map] | refine And.intro (by omega) ?_))
  refine s_call (rootsI_own (.sub iw) a m c1 ha (by omega) hbA) (by simp only [vm, ite_true, ite_false, eq_self, reduceIte, Nat.reduceEqDiff, Option.map, List.map]) ?_
  rintro v c2 hc2 ⟨p1, p2⟩
  by_cases g : m < 1 ∨ 65536 < m
  · obtain rfl := p1 g
    (repeat (first | refine v_reg ?_ | refine v_last ?_ | refine vwp_seq ?_ | refine vwp_block ?_ | refine vwp_skip ?_ | refine vwp_exit ?_ | refine vwp_ret ?_ | refine v_cond ?_ | simp only [vm, ite_true, ite_false, eq_self, reduceIte, Nat.reduceEqDiff, Option.map] | refine And.intro (by omega) ?_))
    refine s_call (rootsI_own (.sub iw) a m c2 ha (by omega) hbA) (by simp only [vm, ite_true, ite_false, eq_self, reduceIte, Nat.reduceEqDiff, Option.map, List.map]) ?_
    rintro v c3 hc3 ⟨q1, _⟩
    obtain rfl := q1 g
    (repeat (first | refine v_reg ?_ | refine v_last ?_ | refine vwp_seq ?_ | refine vwp_block ?_ | refine vwp_skip ?_ | refine vwp_exit ?_ | refine vwp_ret ?_ | refine v_cond ?_ | simp only [vm, ite_true, ite_false, eq_self, reduceIte, Nat.reduceEqDiff, Option.map] | refine And.intro (by omega) ?_))
    refine s_call (residue_spec (.sub iw) a m c3 ha (by omega) hbA) (by simp only [vm, ite_true, ite_false, eq_self, reduceIte, Nat.reduceEqDiff, Option.map, List.map]) ?_
    rintro v c4 hc4 ⟨r1, _⟩
    obtain rfl := r1 g
    (repeat (first | refine v_reg ?_ | refine v_last ?_ | refine vwp_seq ?_ | refine vwp_block ?_ | refine vwp_skip ?_ | refine vwp_exit ?_ | refine vwp_ret ?_ | refine v_cond ?_ | simp only [vm, ite_true, ite_false, eq_self, reduceIte, Nat.reduceEqDiff, Option.map] | refine And.intro (by omega) ?_))
    refine s_call (of_spec t a c4 ha (by omega)) (by simp only [vm, ite_true, ite_false, eq_self, reduceIte, Nat.reduceEqDiff, Option.map, List.map]) ?_
    rintro v c5 hc5 ⟨i5, rfl, _, _⟩
    (repeat (first | refine v_reg ?_ | refine v_last ?_ | refine vwp_seq ?_ | refine vwp_block ?_ | refine vwp_skip ?_ | refine vwp_exit ?_ | refine vwp_ret ?_ | refine v_cond ?_ | simp only [vm, ite_true, ite_false, eq_self, reduceIte, Nat.reduceEqDiff, Option.map] | refine And.intro (by omega) ?_))
    refine s_call (roots04_spec (.id i5) (val 18446744073709551616 a) m c5 hbA) (by simp only [vm, ite_true, ite_false, eq_self, reduceIte, Nat.reduceEqDiff, Option.map, List.map]) ?_
    rintro v c6 hc6 ⟨w1, _⟩
    obtain rfl := w1 g
    (repeat (first | refine v_reg ?_ | refine v_last ?_ | refine vwp_seq ?_ | refine vwp_block ?_ | refine vwp_skip ?_ | refine vwp_exit ?_ | refine vwp_ret ?_ | refine v_cond ?_ | simp only [vm, ite_true, ite_false, eq_self, reduceIte, Nat.reduceEqDiff, Option.map] | refine And.intro (by omega) ?_))
    refine s_call (num_spec 1 c6) (by simp only [vm, ite_true, ite_false, eq_self, reduceIte, Nat.reduceEqDiff, Option.map, List.map]) ?_
    rintro v c7 hc7 rfl
    (repeat (first | refine v_reg ?_ | refine v_last ?_ | refine vwp_seq ?_ | refine vwp_block ?_ | refine vwp_skip ?_ | refine vwp_exit ?_ | refine vwp_ret ?_ | refine v_cond ?_ | simp only [vm, ite_true, ite_false, eq_self, reduceIte, Nat.reduceEqDiff, Option.map] | refine And.intro (by omega) ?_))
    refine s_call (num_spec 1 c7) (by simp only [vm, ite_true, ite_false, eq_self, reduceIte, Nat.reduceEqDiff, Option.map, List.map]) ?_
    rintro v c8 hc8 rfl
    (repeat (first | refine v_reg ?_ | refine v_last ?_ | refine vwp_seq ?_ | refine vwp_block ?_ | refine vwp_skip ?_ | refine vwp_exit ?_ | refine vwp_ret ?_ | refine v_cond ?_ | simp only [vm, ite_true, ite_false, eq_self, reduceIte, Nat.reduceEqDiff, Option.map] | refine And.intro (by omega) ?_))
    refine s_call (num_spec 1 c8) (by simp only [vm, ite_true, ite_false, eq_self, reduceIte, Nat.reduceEqDiff, Option.map, List.map]) ?_
    rintro v c9 hc9 rfl
    (repeat (first | refine v_reg ?_ | refine v_last ?_ | refine vwp_seq ?_ | refine vwp_block ?_ | refine vwp_skip ?_ | refine vwp_exit ?_ | refine vwp_ret ?_ | refine v_cond ?_ | simp only [vm, ite_true, ite_false, eq_self, reduceIte, Nat.reduceEqDiff, Option.map, l_nil] | refine And.intro (by omega) ?_))
    refine s_call (kept_spec (.id iw) t a c9 (by omega)) (by simp only [vm, ite_true, ite_false, eq_self, reduceIte, Nat.reduceEqDiff, Option.map, List.map]) ?_
    rintro v c10 hc10 rfl
    (repeat (first | refine v_reg ?_ | refine v_last ?_ | refine vwp_seq ?_ | refine vwp_block ?_ | refine vwp_skip ?_ | refine vwp_exit ?_ | refine vwp_ret ?_ | refine v_cond ?_ | simp only [vm, ite_true, ite_false, eq_self, reduceIte, Nat.reduceEqDiff, Option.map, l_nil] | refine And.intro (by omega) ?_))
    refine v_once ?_
    (repeat (first | refine v_reg ?_ | refine v_last ?_ | refine vwp_seq ?_ | refine vwp_block ?_ | refine vwp_skip ?_ | refine vwp_exit ?_ | refine vwp_ret ?_ | refine v_cond ?_ | simp only [vm, ite_true, ite_false, eq_self, reduceIte, Nat.reduceEqDiff, Option.map, z0, l_nil] | refine And.intro (by omega) ?_))
    refine v_once ?_
    have g3 : ¬ (1 : Int) = 0 := by decide
    (repeat (first | refine v_reg ?_ | refine v_last ?_ | refine vwp_seq ?_ | refine vwp_block ?_ | refine vwp_skip ?_ | refine vwp_exit ?_ | refine vwp_ret ?_ | refine v_cond ?_ | simp only [vm, ite_true, ite_false, eq_self, reduceIte, Nat.reduceEqDiff, Option.map, z0, l_nil, g3] | refine And.intro (by omega) ?_))
    refine s_call (awake_spec c10) (by simp only [vm, ite_true, ite_false, eq_self, reduceIte, Nat.reduceEqDiff, Option.map, List.map]) ?_
    rintro v c11 hc11 rfl
    (repeat (first | refine v_reg ?_ | refine v_last ?_ | refine vwp_seq ?_ | refine vwp_block ?_ | refine vwp_skip ?_ | refine vwp_exit ?_ | refine vwp_ret ?_ | refine v_cond ?_ | simp only [vm, ite_true, ite_false, eq_self, reduceIte, Nat.reduceEqDiff, Option.map] | refine And.intro (by omega) ?_))
    omega
  have gm1 : 1 ≤ m := by omega
  have gm2 : m ≤ 65536 := by omega
  obtain ⟨m, rfl⟩ : ∃ n : Nat, m = (n : Int) := ⟨m.toNat, by omega⟩
  have e0 : ((m : Int)).toNat = m := by omega
  rw [e0] at p2
  obtain ⟨tl, rfl, htl⟩ := p2 gm1 gm2
  have hm0 : 0 < m := by omega
  have hopp := fun i => RL_opp (A := val 18446744073709551616 a) (m := m) (i := i) hm0
  have hlt : ∀ i, i < (RL (val 18446744073709551616 a) m).length → (RL (val 18446744073709551616 a) m).getD i 0 < m := fun i hi => by
    rw [List.getD_eq_getElem?_getD, List.getElem?_eq_getElem hi]
    exact RL_lt (List.getElem_mem hi)
  have hnl : (RL (val 18446744073709551616 a) m).length ≤ 65536 := ivs_len (val 18446744073709551616 a) m m (Nat.le_refl _) (by omega)
  have hir := isRes_RL (A := val 18446744073709551616 a) (m := m)
  (repeat (first | refine v_reg ?_ | refine v_last ?_ | refine vwp_seq ?_ | refine vwp_block ?_ | refine vwp_skip ?_ | refine vwp_exit ?_ | refine vwp_ret ?_ | refine v_cond ?_ | simp only [vm, ite_true, ite_false, eq_self, reduceIte, Nat.reduceEqDiff, Option.map] | refine And.intro (by omega) ?_))
  refine s_call (rootsI_own (.sub iw) a m c2 ha (by omega) hbA) (by simp only [vm, ite_true, ite_false, eq_self, reduceIte, Nat.reduceEqDiff, Option.map, List.map]) ?_
  rintro v c3 hc3 ⟨_, q2⟩
  rw [e0] at q2
  obtain ⟨tk, rfl, htk⟩ := q2 gm1 gm2
  (repeat (first | refine v_reg ?_ | refine v_last ?_ | refine vwp_seq ?_ | refine vwp_block ?_ | refine vwp_skip ?_ | refine vwp_exit ?_ | refine vwp_ret ?_ | refine v_cond ?_ | simp only [vm, ite_true, ite_false, eq_self, reduceIte, Nat.reduceEqDiff, Option.map] | refine And.intro (by omega) ?_))
  refine s_call (residue_spec (.sub iw) a m c3 ha (by omega) hbA) (by simp only [vm, ite_true, ite_false, eq_self, reduceIte, Nat.reduceEqDiff, Option.map, List.map]) ?_
  rintro v c4 hc4 ⟨_, r2⟩
  rw [e0] at r2
  obtain rfl := r2 gm1 gm2
  (repeat (first | refine v_reg ?_ | refine v_last ?_ | refine vwp_seq ?_ | refine vwp_block ?_ | refine vwp_skip ?_ | refine vwp_exit ?_ | refine vwp_ret ?_ | refine v_cond ?_ | simp only [vm, ite_true, ite_false, eq_self, reduceIte, Nat.reduceEqDiff, Option.map] | refine And.intro (by omega) ?_))
  refine s_call (of_spec t a c4 ha (by omega)) (by simp only [vm, ite_true, ite_false, eq_self, reduceIte, Nat.reduceEqDiff, Option.map, List.map]) ?_
  rintro v c5 hc5 ⟨i5, rfl, _, _⟩
  (repeat (first | refine v_reg ?_ | refine v_last ?_ | refine vwp_seq ?_ | refine vwp_block ?_ | refine vwp_skip ?_ | refine vwp_exit ?_ | refine vwp_ret ?_ | refine v_cond ?_ | simp only [vm, ite_true, ite_false, eq_self, reduceIte, Nat.reduceEqDiff, Option.map] | refine And.intro (by omega) ?_))
  refine s_call (roots04_spec (.id i5) (val 18446744073709551616 a) m c5 hbA) (by simp only [vm, ite_true, ite_false, eq_self, reduceIte, Nat.reduceEqDiff, Option.map, List.map]) ?_
  rintro v c6 hc6 ⟨_, w2⟩
  rw [e0] at w2
  obtain ⟨tw, rfl, htw⟩ := w2 gm1 gm2
  obtain ⟨L, hL⟩ : ∃ L, L = RL (val 18446744073709551616 a) m := ⟨_, rfl⟩
  rw [← hL] at htl htk hopp hlt hnl hir ⊢
  rw [hir]
  (repeat (first | refine v_reg ?_ | refine v_last ?_ | refine vwp_seq ?_ | refine vwp_block ?_ | refine vwp_skip ?_ | refine vwp_exit ?_ | refine vwp_ret ?_ | refine v_cond ?_ | simp only [vm, ite_true, ite_false, eq_self, reduceIte, Nat.reduceEqDiff, Option.map] | refine And.intro (by omega) ?_))
  refine s_call (num_spec 0 c6) (by simp only [vm, ite_true, ite_false, eq_self, reduceIte, Nat.reduceEqDiff, Option.map, List.map]) ?_
  rintro v c7 hc7 rfl
  (repeat (first | refine v_reg ?_ | refine v_last ?_ | refine vwp_seq ?_ | refine vwp_block ?_ | refine vwp_skip ?_ | refine vwp_exit ?_ | refine vwp_ret ?_ | refine v_cond ?_ | simp only [vm, ite_true, ite_false, eq_self, reduceIte, Nat.reduceEqDiff, Option.map] | refine And.intro (by omega) ?_))
  refine s_call (num_spec 0 c7) (by simp only [vm, ite_true, ite_false, eq_self, reduceIte, Nat.reduceEqDiff, Option.map, List.map]) ?_
  rintro v c8 hc8 rfl
  (repeat (first | refine v_reg ?_ | refine v_last ?_ | refine vwp_seq ?_ | refine vwp_block ?_ | refine vwp_skip ?_ | refine vwp_exit ?_ | refine vwp_ret ?_ | refine v_cond ?_ | simp only [vm, ite_true, ite_false, eq_self, reduceIte, Nat.reduceEqDiff, Option.map] | refine And.intro (by omega) ?_))
  refine s_call (num_spec 0 c8) (by simp only [vm, ite_true, ite_false, eq_self, reduceIte, Nat.reduceEqDiff, Option.map, List.map]) ?_
  rintro v c9 hc9 rfl
  (repeat (first | refine v_reg ?_ | refine v_last ?_ | refine vwp_seq ?_ | refine vwp_block ?_ | refine vwp_skip ?_ | refine vwp_exit ?_ | refine vwp_ret ?_ | refine v_cond ?_ | simp only [vm, ite_true, ite_false, eq_self, reduceIte, Nat.reduceEqDiff, Option.map, l_ints] | refine And.intro (by omega) ?_))
  refine s_call (kept_spec (.id iw) t a c9 (by omega)) (by simp only [vm, ite_true, ite_false, eq_self, reduceIte, Nat.reduceEqDiff, Option.map, List.map]) ?_
  rintro v c10 hc10 rfl
  (repeat (first | refine v_reg ?_ | refine v_last ?_ | refine vwp_seq ?_ | refine vwp_block ?_ | refine vwp_skip ?_ | refine vwp_exit ?_ | refine vwp_ret ?_ | refine v_cond ?_ | simp only [vm, ite_true, ite_false, eq_self, reduceIte, Nat.reduceEqDiff, Option.map, l_ints] | refine And.intro (by omega) ?_))
  have b_eqb : ∀ x y : Bool, sbin .eql true (bv x) (bv y) = some (bv (x == y)) := fun _ _ => rfl
  by_cases hn0 : L.length = 0
  · have hl0 : (L.length : Int) = 0 := by omega
    refine v_once ?_
    (repeat (first | refine v_reg ?_ | refine v_last ?_ | refine vwp_seq ?_ | refine vwp_block ?_ | refine vwp_skip ?_ | refine vwp_exit ?_ | refine vwp_ret ?_ | refine v_cond ?_ | simp only [vm, ite_true, ite_false, eq_self, reduceIte, Nat.reduceEqDiff, Option.map, z0, l_ints, hl0] | refine And.intro (by omega) ?_))
    refine v_once ?_
    have hd0 : ¬ 0 < L.length := by omega
    have hff : (false == false) = true := rfl
    (repeat (first | refine v_reg ?_ | refine v_last ?_ | refine vwp_seq ?_ | refine vwp_block ?_ | refine vwp_skip ?_ | refine vwp_exit ?_ | refine vwp_ret ?_ | refine v_cond ?_ | simp only [vm, ite_true, ite_false, eq_self, reduceIte, Nat.reduceEqDiff, Option.map, z0, l_ints, hl0, hd0, b_eqb, hff] | refine And.intro (by omega) ?_))
    refine s_call (awake_spec c10) (by simp only [vm, ite_true, ite_false, eq_self, reduceIte, Nat.reduceEqDiff, Option.map, List.map]) ?_
    rintro v c11 hc11 rfl
    (repeat (first | refine v_reg ?_ | refine v_last ?_ | refine vwp_seq ?_ | refine vwp_block ?_ | refine vwp_skip ?_ | refine vwp_exit ?_ | refine vwp_ret ?_ | refine v_cond ?_ | simp only [vm, ite_true, ite_false, eq_self, reduceIte, Nat.reduceEqDiff, Option.map] | refine And.intro (by omega) ?_))
    omega
  have hLne : L ≠ [] := fun e => hn0 (by rw [e]; rfl)
  obtain ⟨jl, rfl, hjl, hjl2⟩ : ∃ j, tl = .id j ∧ c1 ≤ j ∧ j < c2 := by
    rcases htl with ⟨_, h⟩ | h
    · exact absurd h hLne
    · exact h
  have th9 : V.thaw jl (ints tk L) = ints tk L := thaw_ints (apart_row htk (by omega))
  have th13 : V.thaw jl (ints tw L) = ints tw L := thaw_ints (apart_tk htw (by omega))
  refine vwp_thaw 7 jl L.length 1 (ivs L) (by simp only [vm, ite_true, ite_false, eq_self, reduceIte, Nat.reduceEqDiff, Option.map]) (by omega) (by simp) (by simpa using hLne) (fun x hx => ?_) ?_
  · obtain ⟨n, _, rfl⟩ := List.mem_map.1 hx
    rfl
  rw [thawed_noI]
  refine v_loop (fun S => S.ρ 1 = iv (m : Int) ∧ S.ρ 9 = ints tk L ∧ S.ρ 11 = bv (decide (0 < L.length)) ∧ S.ρ 13 = ints tw L ∧ S.ρ 14 = iv 0 ∧ c10 ≤ S.c) ?_ ?_
  · refine vwp_loop (fun q S => ∃ i, q = L.length - i ∧ i ≤ L.length ∧ S.ρ 1 = iv (m : Int) ∧ S.ρ 7 = .buf jl 0 L.length none 1 ∧ S.ρ 9 = ints tk L ∧ S.ρ 11 = bv (decide (0 < L.length)) ∧ S.ρ 13 = ints tw L ∧ S.ρ 14 = iv 0 ∧ S.ρ 84 = iv (L.length : Int) ∧ S.ρ 85 = iv (i : Int) ∧ S.σ = supd noBlk jl (some ⟨overL L i, true⟩) ∧ c10 ≤ S.c) L.length ?_ ?_
    · refine ⟨0, by omega, by omega, ?_⟩
      simp only [vm, ite_true, ite_false, eq_self, reduceIte, Nat.reduceEqDiff, Option.map, th9, th13, thaw_lit]
      (repeat' apply And.intro) <;> first | rfl | omega | assumption | exact True.intro
    rintro q ⟨ρ5, σ5, e11⟩ ⟨i, hq, hi, h1, h7, h9, h11, h13, h14, h84, h85, hσ, he11⟩
    dsimp only at h1 h7 h9 h11 h13 h14 h84 h85 hσ he11
    subst hσ
    by_cases gi : (i : Int) < L.length
    · have hi' : i < L.length := by omega
      have e3 : (i : Int) + 1 = ((i + 1 : Nat) : Int) := by omega
      have hog := overL_get hi'
      have hos := overL_set hi'
      have hol := overL_len (l := L) (i := i) (by omega)
      have hil : (ivs L).length = L.length := by simp
      have hig := ivs_get hi'
      (repeat (first | refine v_reg ?_ | refine v_last ?_ | refine vwp_seq ?_ | refine vwp_block ?_ | refine vwp_skip ?_ | refine vwp_exit ?_ | refine vwp_ret ?_ | refine v_cond ?_ | simp only [vm, ite_true, ite_false, eq_self, reduceIte, Nat.reduceEqDiff, Option.map, h1, h7, h9, h11, h13, h14, h84, h85, gi, d_cells, hog, a_rows, d_rows, hil, hig, t_cellI, hol, hos, e3] | refine And.intro (by omega) ?_))
      exact ⟨L.length - (i + 1), by omega, i + 1, rfl, by omega, rfl, rfl, he11⟩
    · have hi' : i = L.length := by omega
      subst hi'
      (repeat (first | refine v_reg ?_ | refine v_last ?_ | refine vwp_seq ?_ | refine vwp_block ?_ | refine vwp_skip ?_ | refine vwp_exit ?_ | refine vwp_ret ?_ | refine v_cond ?_ | simp only [vm, ite_true, ite_false, eq_self, reduceIte, Nat.reduceEqDiff, Option.map, h1, h7, h9, h11, h13, h14, h84, h85, gi] | refine And.intro (by omega) ?_))
      (repeat' apply And.intro) <;> first | rfl | omega | assumption | exact True.intro
  rintro ⟨ρ6, σ6, c12⟩ ⟨h1, h9, h11, h13, h14, hc12⟩
  dsimp only at h1 h9 h11 h13 h14 hc12
  (repeat (first | refine v_reg ?_ | refine v_last ?_ | refine vwp_seq ?_ | refine vwp_block ?_ | refine vwp_skip ?_ | refine vwp_exit ?_ | refine vwp_ret ?_ | refine v_cond ?_ | simp only [vm, ite_true, ite_false, eq_self, reduceIte, Nat.reduceEqDiff, Option.map, h13, l_ints] | refine And.intro (by omega) ?_))
  refine v_loop (fun S => S.ρ 11 = bv (decide (0 < L.length)) ∧ S.ρ 13 = ints tw L ∧ S.ρ 14 = iv 0 ∧ c10 ≤ S.c) ?_ ?_
  · refine vwp_loop (fun q S => ∃ i, q = L.length - i ∧ i ≤ L.length ∧ S.ρ 1 = iv (m : Int) ∧ S.ρ 9 = ints tk L ∧ S.ρ 11 = bv (decide (0 < L.length)) ∧ S.ρ 13 = ints tw L ∧ S.ρ 14 = iv 0 ∧ S.ρ 102 = iv (L.length : Int) ∧ S.ρ 103 = iv (i : Int) ∧ c10 ≤ S.c) L.length ?_ ?_
    · refine ⟨0, by omega, by omega, ?_⟩
      simp only [vm, ite_true, ite_false, eq_self, reduceIte, Nat.reduceEqDiff, Option.map, h1, h9, h11, h13, h14]
      (repeat' apply And.intro) <;> first | rfl | omega | assumption | exact True.intro
    rintro q ⟨ρ5, σ5, e11⟩ ⟨i, hq, hi, h1, h9, h11, h13, h14, h102, h103, he11⟩
    dsimp only at h1 h9 h11 h13 h14 h102 h103 he11
    by_cases gi : (i : Int) < L.length
    · have hi' : i < L.length := by omega
      have e3 : (i : Int) + 1 = ((i + 1 : Nat) : Int) := by omega
      have hil : (ivs L).length = L.length := by simp
      have hig := ivs_get hi'
      by_cases gp : (0 : Int) < ((L.getD i 0 : Nat) : Int)
      · obtain ⟨o1, o2⟩ := hopp i hi' (by omega)
        have hlm := hlt i hi'
        obtain ⟨idx, hidx⟩ : ∃ x, x = L.length - 1 - i + skewN L := ⟨_, rfl⟩
        rw [← hidx] at o1 o2
        have hog := ivs_get o1
        rw [o2] at hog
        have e4 : (L.length : Int) - 1 - (i : Int) + ((skewN L : Nat) : Int) = (idx : Int) := by omega
        have e5 : (m : Int) - ((L.getD i 0 : Nat) : Int) = ((m - L.getD i 0 : Nat) : Int) := by omega
        have hsk : skewN L ≤ 1 := by unfold skewN; split <;> omega
        (repeat (first | refine v_reg ?_ | refine v_last ?_ | refine vwp_seq ?_ | refine vwp_block ?_ | refine vwp_skip ?_ | refine vwp_exit ?_ | refine vwp_ret ?_ | refine v_cond ?_ | simp only [vm, ite_true, ite_false, eq_self, reduceIte, Nat.reduceEqDiff, Option.map, h1, h9, h11, h13, h14, h102, h103, gi, a_rows, d_rows, hil, hig, gp, l_ints] | refine And.intro (by omega) ?_))
        refine s_call (skew_spec tw L e11) (by simp only [vm, ite_true, ite_false, eq_self, reduceIte, Nat.reduceEqDiff, Option.map, List.map, h13]) ?_
        rintro v e12 he12 rfl
        (repeat (first | refine v_reg ?_ | refine v_last ?_ | refine vwp_seq ?_ | refine vwp_block ?_ | refine vwp_skip ?_ | refine vwp_exit ?_ | refine vwp_ret ?_ | refine v_cond ?_ | simp only [vm, ite_true, ite_false, eq_self, reduceIte, Nat.reduceEqDiff, Option.map, h1, h9, h11, h13, h14, h102, h103, gi, a_rows, d_rows, hil, hig, gp, l_ints, e4, e5, hog, e3] | refine And.intro (by omega) ?_))
        refine ⟨L.length - (i + 1), by omega, i + 1, ?_⟩
        (repeat' apply And.intro) <;> first | rfl | omega | assumption | exact True.intro
      · (repeat (first | refine v_reg ?_ | refine v_last ?_ | refine vwp_seq ?_ | refine vwp_block ?_ | refine vwp_skip ?_ | refine vwp_exit ?_ | refine vwp_ret ?_ | refine v_cond ?_ | simp only [vm, ite_true, ite_false, eq_self, reduceIte, Nat.reduceEqDiff, Option.map, h1, h9, h11, h13, h14, h102, h103, gi, a_rows, d_rows, hil, hig, gp, e3] | refine And.intro (by omega) ?_))
        refine ⟨L.length - (i + 1), by omega, i + 1, ?_⟩
        (repeat' apply And.intro) <;> first | rfl | omega | assumption | exact True.intro
    · have hi' : i = L.length := by omega
      subst hi'
      (repeat (first | refine v_reg ?_ | refine v_last ?_ | refine vwp_seq ?_ | refine vwp_block ?_ | refine vwp_skip ?_ | refine vwp_exit ?_ | refine vwp_ret ?_ | refine v_cond ?_ | simp only [vm, ite_true, ite_false, eq_self, reduceIte, Nat.reduceEqDiff, Option.map, h1, h9, h11, h13, h14, h102, h103, gi] | refine And.intro (by omega) ?_))
      (repeat' apply And.intro) <;> first | rfl | omega | assumption | exact True.intro
  rintro ⟨ρ7, σ7, c13⟩ ⟨h11, h13, h14, hc13⟩
  dsimp only at h11 h13 h14 hc13
  have hd1 : 0 < L.length := by omega
  have hd2 : (0 : Int) < (L.length : Int) := by omega
  have htt : (true == true) = true := rfl
  (repeat (first | refine v_reg ?_ | refine v_last ?_ | refine vwp_seq ?_ | refine vwp_block ?_ | refine vwp_skip ?_ | refine vwp_exit ?_ | refine vwp_ret ?_ | refine v_cond ?_ | simp only [vm, ite_true, ite_false, eq_self, reduceIte, Nat.reduceEqDiff, Option.map, h11, h13, h14, l_ints, hd1, hd2, b_eqb, htt] | refine And.intro (by omega) ?_))
  refine s_call (awake_spec c13) (by simp only [vm, ite_true, ite_false, eq_self, reduceIte, Nat.reduceEqDiff, Option.map, List.map]) ?_
  rintro v c14 hc14 rfl
  (repeat (first | refine v_reg ?_ | refine v_last ?_ | refine vwp_seq ?_ | refine vwp_block ?_ | refine vwp_skip ?_ | refine vwp_exit ?_ | refine vwp_ret ?_ | refine v_cond ?_ | simp only [vm, ite_true, ite_false, eq_self, reduceIte, Nat.reduceEqDiff, Option.map] | refine And.intro (by omega) ?_))
  omega
end Go.Proofs.Ytladcfeibpddeab
set_option linter.unusedVariables false
set_option maxRecDepth 100000
namespace Go.Proofs.Ytladcfeibpddeab
open Go.VM Go.ChangeShapes Go.WideShapes Go.ChangeAt Go.RowKit

theorem own : ownKnob Try.prog.godebug = none := by kernel_rfl
theorem cellsOfE : Try.prog.cellsOf 54 = 1 := by kernel_rfl
theorem rep_ints {W : World} {xs : List V} {vs : Array Value} {l : List (V × Value)} (hx : xs = l.map Prod.fst) (hv : vs = (l.map Prod.snd).toArray) (h : ∀ p ∈ l, Rep W (fun b => b < W.heap.size) (fun _ => 0) 0 p.1 p.2) :
    ∀ (j : Nat) (x : V) (v : Value), xs[j]? = some x → vs[j]? = some v → Rep W (fun b => b < W.heap.size) (fun _ => 0) 0 x v := by
  intro j x v h1 h2
  subst hx hv
  rw [List.getElem?_map] at h1
  obtain ⟨p, hp, rfl⟩ := Option.map_eq_some_iff.1 h1
  have h2' : (l.map Prod.snd)[j]? = some v := by simpa using h2
  rw [List.getElem?_map, hp] at h2'
  cases h2'
  exact h p (List.mem_of_getElem? hp)
theorem wf_i64 {n : Int} (h : (Lit.int .i64 n).wf = true) : -9223372036854775808 ≤ n ∧ n < 9223372036854775808 := by
  simp [Lit.wf, IntKind.min, IntKind.max, IntKind.signed, IntKind.bits] at h
  omega

theorem row_contract (H : Type) (enc : TypeId × Value → H) (W : World) (base : Nat) (args : Array Value) (ds gs : List (DataW H)) (before : List MemPlace)
    (hval : ∀ (j : Nat) t v, Try.f3.params[j]? = some t → args[j]? = some v → Value.okWide Try.prog W .any base t v)
    (hW : DataW.Whole enc Try.prog Try.f3.params.toList Rows.rootListsSpec.vars false W args.toList ds gs before) (hk : Rows.uptoSmall H (ds ++ gs) = true) :
    Calls Try.prog 3 args W fun e W' => ∃ v, e = .returned v ∧ Rows.rootListsSpec.post enc Try.prog Try.f3 false true false false W args v W' := by
  have hW' := hW
  obtain ⟨p, q, hA0, hV, rfl, hfz, hnd⟩ := hW
  have hA : DataW.TrodAll enc Try.prog W 0 (fun _ => true) true Try.f3.params.toList args.toList ds p := hA0
  rw [Try.params3] at hA hval
  obtain ⟨v0, vs0, d0, ds0, p0, q0, hargs, rfl, rfl, h0, r0⟩ := trodAll_cons hA
  obtain ⟨v1, vs1, d1, ds1, p1, q1, hargs1, rfl, rfl, h1, r1⟩ := trodAll_cons r0
  obtain ⟨rfl, rfl, rfl⟩ := trodAll_nil r1
  obtain rfl : args = #[v0, v1] := by cases args; simp_all
  obtain ⟨rfl, rfl⟩ := trodVars_none hV
  clear hA0
  have hv0 := hval 0 22 v0 rfl rfl
  obtain ⟨n1, rfl, rfl, rfl, w1⟩ := open_int Try.underlying3 (hval 1 3 v1 rfl rfl) h1
  simp only [List.append_nil] at hW' hk
  obtain ⟨l, hl, hrep, hbulk, hshut⟩ := slice_arg Try.underlying22 Try.underlying54 cellsOfE hv0 h0 (fun p hp => hW'.lt p hp)
  have hb : Rows.uptoBulkAll [d0, .lit (.int .i64 n1)] ≤ 1048576 := of_decide_eq_true hk
  simp only [Rows.uptoBulkAll, Rows.uptoBulk] at hb
  obtain ⟨b1, b1'⟩ := wf_i64 w1
  obtain ⟨r, c9, _, hc9, hr9⟩ := lists_law .unk l n1 0 hl (by omega) b1 b1'
  subst hr9
  refine (calls_same hc9 W #[v0, .int .i64 n1] rfl (rep_ints (l := [(nats .unk l, v0), (iv n1, .int .i64 n1)]) rfl rfl (fun p hp => ?_)) ⟨_, rfl⟩).mono fun e W' ⟨v, he, hv, hs⟩ => ?_
  · simp only [List.mem_cons, List.not_mem_nil, or_false] at hp
    rcases hp with rfl | rfl
    · exact hrep
    · exact .lit _
  subst he
  cases hv
  exact ⟨_, rfl, post_kept (pa := p0) (pv := []) hW' hs (fun _ _ _ => trodAll_cons_mk (shut_bool Try.underlying4 _) trodAll_mk0)
    (fun sp hsp => by
      have t0 := trodAll_cons_mk (hshut W' hs sp hsp) (trodAll_cons_mk (shut_int Try.underlying3 w1) trodAll_mk0)
      simp only [List.append_nil] at t0
      rw [Try.params3]
      exact t0) (fun _ _ => rfl) (by simp)
    (ok_one (by kernel_rfl) rfl (okWide_bool_mk Try.underlying4 _))⟩

theorem row_lifted (os : Os) (started : os.Started) (H : Type) (enc : TypeId × Value → H) (F : Stop.Interp) :
    ReturnsInHanded {} Try.checked os 3 .any ((Rows.OpenSpec.upto Rows.rootListsSpec).pre6 enc Try.prog Try.f3 Rows.rootListsUptoRow.domain false) (((Rows.OpenSpec.upto Rows.rootListsSpec).at F).post enc Try.prog Try.f3 false true false false) := by
  refine returnsInHanded_of_cond (C := Try.checked) (s := Rows.OpenSpec.upto Rows.rootListsSpec) (k := Rows.uptoSmall) rfl own started (by kernel_rfl) Try.func3
    (OpenSpec.witness (enc := enc) (C := Try.checked) (s := Rows.OpenSpec.upto Rows.rootListsSpec) (k := Rows.uptoSmall) rfl false ⟨#[], #[.slice none 0 0, .int .i64 0], []⟩ 8 (by kernel_rfl) (by kernel_rfl) (by kernel_rfl)
      (x := ([.nil, .lit (.int .i64 0)], [], [])) (by kernel_rfl) rfl (by kernel_rfl)) ?_
  intro W base args ds gs before hval hW _ hk _
  exact row_contract H enc W base args ds gs before hval hW hk

theorem row_holds : Rows.RootListsUptoSaid :=
  OpenClaim.holds_of_cond 3 Try.f3 rfl rfl rfl rfl rfl rfl rfl ⟨rfl, rfl, rfl, rfl, rfl⟩ rfl rfl rfl rfl rfl (by kernel_rfl) Try.func3 (by kernel_rfl)
    (of_decide_eq_true (by kernel_rfl)) (by unfold Func.isWrapper; first | (rw [if_pos (by decide +kernel)]; kernel_rfl) | (rw [if_neg (by decide +kernel)]; exact ⟨rfl, rfl⟩))
    (fun os started H enc _ F => row_lifted os started H enc F)
#print axioms row_holds
end Go.Proofs.Ytladcfeibpddeab
