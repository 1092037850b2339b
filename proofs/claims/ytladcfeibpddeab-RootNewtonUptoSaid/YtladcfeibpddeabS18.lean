import Derived.Test.YtladcfeibpddeabS17
import Derived.Test.YtladcfeibpddeabKnuthL
set_option linter.unusedSimpArgs false
set_option linter.unusedVariables false
set_option maxRecDepth 100000
set_option maxHeartbeats 8000000
namespace Go.Proofs.Ytladcfeibpddeab
open Go.VM

def GPost (t : Nat) (A u D v : List Nat) (m : Nat) : V → (Nat → Option Blk) → Nat → Prop := fun r σ' _ => r = nv (val 18446744073709551616 u / val 18446744073709551616 v) ∧ ∃ u', σ' t = nblk ((A ++ u') ++ D) ∧ u'.length = m + 3 ∧ Lim 18446744073709551616 u' ∧ val 18446744073709551616 u' = val 18446744073709551616 u % val 18446744073709551616 v
def VCrest : VC → VC | .seq _ b => b | v => v
def R1g : VC := VCrest (VCrest (VCrest (VCrest (VCrest (VCrest C.div_guess)))))
def R2g : VC := VCrest (VCrest R1g)
theorem guess_end (t : Nat) (tv : Tok) (A u D v : List Nat) (m c : Nat) (cap : Option Nat) (hu : Lim 18446744073709551616 u) (hv : Lim 18446744073709551616 v) (hun : u.length = m + 3) (hvn : v.length = m + 2) (hV0 : 0 < val 18446744073709551616 v) (hUlt : val 18446744073709551616 u < 18446744073709551616 ^ (m + 3))
    (hlen : A.length + D.length + m ≤ 4398046511104) (q : Nat) (hq : q < 18446744073709551616) (hQ : val 18446744073709551616 u / val 18446744073709551616 v ≤ q) (hq1 : q ≤ val 18446744073709551616 u / val 18446744073709551616 v + 1)
    (ρ3 : Nat → V) (c3 : Nat) (w : List Nat) (carry bo : Nat) (hw : w.length = m + 2) (hlw : Lim 18446744073709551616 w) (hca : carry < 18446744073709551616) (hbo : bo ≤ 1) (hinv : val 18446744073709551616 w + val 18446744073709551616 v * q = val 18446744073709551616 (u.take (m + 2)) + 18446744073709551616 ^ (m + 2) * (carry + bo))
    (h0 : ρ3 0 = .buf t A.length (m + 3) cap 1) (h1 : ρ3 1 = nats tv v) (h5 : ρ3 5 = iv ((m + 2 : Nat) : Int)) (h6 : ρ3 6 = nv q) (h13 : ρ3 13 = nv carry) (h14 : ρ3 14 = nv bo) (hc3 : c ≤ c3) :
    VWP Try.prog c R2g (retL R.div_guess fun r σ' c' => c ≤ c' ∧ GPost t A u D v m r (lentσ (supd noBlk t (nblk ((A ++ u) ++ D))) σ') c') ⟨ρ3, supd noBlk t (nblk ((A ++ (w ++ u.drop (m + 2))) ++ D)), c3⟩ := by
  unfold R2g R1g C.div_guess R.div_guess
  simp only [VCrest, GPost]
  obtain ⟨x, hxe⟩ : ∃ x, u.getD (m + 2) 0 = x := ⟨_, rfl⟩
  have hx := hu.getD (i := m + 2) (by decide)
  rw [hxe] at hx
  obtain ⟨Qq, hQq⟩ : ∃ Qq, Qq = val 18446744073709551616 u / val 18446744073709551616 v := ⟨_, rfl⟩
  have hux := val_take' 18446744073709551616 u (m + 2)
  rw [List.take_of_length_le (show u.length ≤ m + 2 + 1 by omega), hxe] at hux
  have hget : ((A ++ (w ++ u.drop (m + 2))) ++ D).getD (A.length + (m + 2)) 0 = x := by rw [getD_mid _ _ _ _ (by simp; omega), getD_snoc_drop hw (by omega), hxe]
  have hset : ∀ d, ((A ++ (w ++ u.drop (m + 2))) ++ D).set (A.length + (m + 2)) d = (A ++ (w ++ [d])) ++ D := fun d => by
    rw [set_mid _ _ _ _ _ (by simp; omega), set_snoc_drop hw (by omega), List.drop_of_length_le (by omega), List.append_nil]
  have hlen2 : ((A ++ (w ++ u.drop (m + 2))) ++ D).length = A.length + (m + 3) + D.length := by simp; omega
  have hb1 : (if x < carry + bo then 1 else 0) ≤ 1 := by split <;> omega
  have key := msub_step (b := 18446744073709551616) (q := q) (x := 0) (c' := 0) (s := carry) (bo' := if x < carry + bo then 1 else 0) (d := (x + 18446744073709551616 - carry - bo) % 18446744073709551616) (y := x) hw hinv (by omega) (by split <;> omega)
  rw [Nat.mul_zero, Nat.add_zero, ← hux, Nat.zero_add] at key
  have hdl := Nat.mod_lt (x + 18446744073709551616 - carry - bo) (show 0 < 18446744073709551616 by decide)
  obtain ⟨d, hdd⟩ : ∃ d, d = (x + 18446744073709551616 - carry - bo) % 18446744073709551616 := ⟨_, rfl⟩
  rw [← hdd] at key hdl
  obtain ⟨bo2, hbo2⟩ : ∃ b2, b2 = if x < carry + bo then 1 else 0 := ⟨_, rfl⟩
  rw [← hbo2] at key hb1
  have hWl : Lim 18446744073709551616 (w ++ [d]) := lim_snoc hlw hdl
  have hWn : (w ++ [d]).length = m + 3 := by simp; omega
  have hWlt := val_lt hWl
  rw [hWn] at hWlt
  have e23 : m + 3 = m + 2 + 1 := by omega
  have hUlt2 := hUlt
  rw [e23] at hUlt2 hWlt
  obtain ⟨n0, n1⟩ := knuth_end (b := 18446744073709551616) (n := m + 2) hV0 key hWlt hUlt2 (by omega) hq1 hb1
  by_cases gb : bo2 = 0
  · obtain ⟨r1, r2⟩ := n0 gb
    rw [gb] at hbo2
    (repeat (first | refine v_reg ?_ | refine v_last ?_ | refine vwp_seq ?_ | refine vwp_block ?_ | refine vwp_skip ?_ | refine vwp_exit ?_ | refine vwp_ret ?_ | refine v_cond ?_ | simp only [vm, ite_true, ite_false, reduceIte, Nat.reduceEqDiff, Option.map, decide_eq_true_eq, decide_eq_false_iff_not, Bool.not_eq_true, decide_true, decide_false, Bool.not_true, Bool.not_false, Bool.false_eq_true, not_true_eq_false, not_false_eq_true, eq_self, and_true, true_and, h0, h1, h5, h6, h13, h14, hget, hset, hlen2, ← hbo2, ← hdd] | refine And.intro (by omega) ?_))
    exact ⟨by rw [r1], w ++ [d], rfl, hWn, hWl, r2⟩
  · obtain ⟨r1, r2⟩ := n1 gb
    have gb1 : bo2 = 1 := by omega
    rw [gb1] at hbo2
    have hq0 : 0 < q := by omega
    have hd1 := dec_mod64 hq0 hq
    (repeat (first | refine v_reg ?_ | refine v_last ?_ | refine vwp_seq ?_ | refine vwp_block ?_ | refine vwp_skip ?_ | refine vwp_exit ?_ | refine vwp_ret ?_ | refine v_cond ?_ | simp only [vm, ite_true, ite_false, reduceIte, Nat.reduceEqDiff, Option.map, decide_eq_true_eq, decide_eq_false_iff_not, Bool.not_eq_true, decide_true, decide_false, Bool.not_true, Bool.not_false, Bool.false_eq_true, not_true_eq_false, not_false_eq_true, eq_self, and_true, true_and, h0, h1, h5, h6, h13, h14, hget, hset, hlen2, ← hbo2, ← hdd, hd1, hvn] | refine And.intro (by omega) ?_))
    generalize w ++ [d] = Wl at *
    have hWtop := hWl.getD (i := m + 2) (by decide)
    refine v_loop (fun S => ∃ w2 back, w2.length = m + 2 ∧ Lim 18446744073709551616 w2 ∧ back ≤ 1 ∧ val 18446744073709551616 w2 + 18446744073709551616 ^ (m + 2) * back = val 18446744073709551616 (Wl.take (m + 2)) + val 18446744073709551616 v ∧ S.ρ 0 = .buf t A.length (m + 3) cap 1 ∧ S.ρ 5 = iv ((m + 2 : Nat) : Int) ∧ S.ρ 6 = nv (q - 1) ∧ S.ρ 21 = nv back ∧ S.σ = supd noBlk t (nblk ((A ++ (w2 ++ Wl.drop (m + 2))) ++ D)) ∧ c ≤ S.c) ?_ ?_
    · refine vwp_loop (fun k S => ∃ i w2 back, k = m + 2 - i ∧ i ≤ m + 2 ∧ w2.length = i ∧ Lim 18446744073709551616 w2 ∧ back ≤ 1 ∧ val 18446744073709551616 w2 + 18446744073709551616 ^ i * back = val 18446744073709551616 (Wl.take i) + val 18446744073709551616 (v.take i) ∧ S.ρ 0 = .buf t A.length (m + 3) cap 1 ∧ S.ρ 5 = iv ((m + 2 : Nat) : Int) ∧ S.ρ 6 = nv (q - 1) ∧ S.ρ 21 = nv back ∧ S.ρ 166 = nats tv v ∧ S.ρ 167 = iv ((m + 2 : Nat) : Int) ∧ S.ρ 168 = iv i ∧ S.σ = supd noBlk t (nblk ((A ++ (w2 ++ Wl.drop i)) ++ D)) ∧ c ≤ S.c) (m + 2) ?_ ?_
      · refine ⟨0, [], 0, by omega, by omega, ?_⟩
        simp only [vm, ite_true, ite_false, reduceIte, Nat.reduceEqDiff, Option.map, decide_eq_true_eq, decide_eq_false_iff_not, Bool.not_eq_true, decide_true, decide_false, Bool.not_true, Bool.not_false, Bool.false_eq_true, not_true_eq_false, not_false_eq_true, eq_self, and_true, true_and, h0, h1, h5, h6]
        (repeat' apply And.intro) <;> first | rfl | omega | assumption | exact Lim.nil | (simp [val]; done) | (rw [List.nil_append, List.drop_zero])
      rintro k ⟨ρ4, σ, c4⟩ ⟨i, w2, back, hk, hi, hw2, hlw2, hba, hinv2, h0, h5, h6, h21, h166, h167, h168, hσ, hc4⟩
      dsimp only at h0 h5 h6 h21 h166 h167 h168 hσ hc4
      subst hσ
      by_cases g : (i : Int) < ((m + 2 : Nat) : Int)
      · have hi' : i < m + 2 := by omega
        have hxi := hv.getD (i := i) (by decide)
        have hyi := hWl.getD (i := i) (by decide)
        have hvx := val_take' 18446744073709551616 v i
        have hwx := val_take' 18446744073709551616 Wl i
        have hget3 : ((A ++ (w2 ++ Wl.drop i)) ++ D).getD (A.length + i) 0 = Wl.getD i 0 := by rw [getD_mid _ _ _ _ (by simp; omega), getD_snoc_drop hw2 (by omega)]
        have hset3 : ∀ d, ((A ++ (w2 ++ Wl.drop i)) ++ D).set (A.length + i) d = (A ++ ((w2 ++ [d]) ++ Wl.drop (i + 1))) ++ D := fun d => by rw [set_mid _ _ _ _ _ (by simp; omega), set_snoc_drop hw2 (by omega)]
        have hlen3 : ((A ++ (w2 ++ Wl.drop i)) ++ D).length = A.length + (m + 3) + D.length := by simp; omega
        (repeat (first | refine v_reg ?_ | refine v_last ?_ | refine vwp_seq ?_ | refine vwp_block ?_ | refine vwp_skip ?_ | refine vwp_exit ?_ | refine vwp_ret ?_ | refine v_cond ?_ | simp only [vm, ite_true, ite_false, reduceIte, Nat.reduceEqDiff, Option.map, decide_eq_true_eq, decide_eq_false_iff_not, Bool.not_eq_true, decide_true, decide_false, Bool.not_true, Bool.not_false, Bool.false_eq_true, not_true_eq_false, not_false_eq_true, eq_self, and_true, true_and, h0, h5, h6, h21, h166, h167, h168, g, hvn, hget3, hset3, hlen3] | refine And.intro (by omega) ?_))
        have hb3 : (Wl.getD i 0 + v.getD i 0 + back) / 18446744073709551616 ≤ 1 := by omega
        have key3 := addb_step (b := 18446744073709551616) (c' := (Wl.getD i 0 + v.getD i 0 + back) / 18446744073709551616) (d := (Wl.getD i 0 + v.getD i 0 + back) % 18446744073709551616) (x := v.getD i 0) (y := Wl.getD i 0) hw2 hinv2 (by omega)
        rw [← hvx, ← hwx] at key3
        refine ⟨m + 2 - (i + 1), by omega, i + 1, w2 ++ [(Wl.getD i 0 + v.getD i 0 + back) % 18446744073709551616], (Wl.getD i 0 + v.getD i 0 + back) / 18446744073709551616, ?_⟩
        (repeat' apply And.intro) <;> first | rfl | exact key3 | exact hb3 | exact lim_snoc hlw2 (Nat.mod_lt _ (by decide)) | (simp [hw2]; done) | omega | assumption
      · have hi' : i = m + 2 := by omega
        subst hi'
        rw [List.take_of_length_le (l := v) (by omega)] at hinv2
        (repeat (first | refine v_reg ?_ | refine v_last ?_ | refine vwp_seq ?_ | refine vwp_block ?_ | refine vwp_skip ?_ | refine vwp_exit ?_ | refine vwp_ret ?_ | refine v_cond ?_ | simp only [vm, ite_true, ite_false, reduceIte, Nat.reduceEqDiff, Option.map, decide_eq_true_eq, decide_eq_false_iff_not, Bool.not_eq_true, decide_true, decide_false, Bool.not_true, Bool.not_false, Bool.false_eq_true, not_true_eq_false, not_false_eq_true, eq_self, and_true, true_and, h0, h5, h6, h21, h166, h167, h168, g] | refine And.intro (by omega) ?_))
        refine ⟨w2, back, ?_⟩
        (repeat' apply And.intro) <;> first | rfl | omega | assumption
    rintro ⟨ρ4, σ, c4⟩ ⟨w2, back, hw2, hlw2, hba, hinv2, h0, h5, h6, h21, hσ, hc4⟩
    dsimp only at h0 h5 h6 h21 hσ hc4
    subst hσ
    have hwx := val_take' 18446744073709551616 Wl (m + 2)
    rw [List.take_of_length_le (show Wl.length ≤ m + 2 + 1 by omega)] at hwx
    have hget3 : ((A ++ (w2 ++ Wl.drop (m + 2))) ++ D).getD (A.length + (m + 2)) 0 = Wl.getD (m + 2) 0 := by rw [getD_mid _ _ _ _ (by simp; omega), getD_snoc_drop hw2 (by omega)]
    have hset3 : ∀ d, ((A ++ (w2 ++ Wl.drop (m + 2))) ++ D).set (A.length + (m + 2)) d = (A ++ (w2 ++ [d])) ++ D := fun d => by
      rw [set_mid _ _ _ _ _ (by simp; omega), set_snoc_drop hw2 (by omega), List.drop_of_length_le (by omega), List.append_nil]
    have hlen3 : ((A ++ (w2 ++ Wl.drop (m + 2))) ++ D).length = A.length + (m + 3) + D.length := by simp; omega
    have key3 := add_last hw2 hinv2 hwx
    (repeat (first | refine v_reg ?_ | refine v_last ?_ | refine vwp_seq ?_ | refine vwp_block ?_ | refine vwp_skip ?_ | refine vwp_exit ?_ | refine vwp_ret ?_ | refine v_cond ?_ | simp only [vm, ite_true, ite_false, reduceIte, Nat.reduceEqDiff, Option.map, decide_eq_true_eq, decide_eq_false_iff_not, Bool.not_eq_true, decide_true, decide_false, Bool.not_true, Bool.not_false, Bool.false_eq_true, not_true_eq_false, not_false_eq_true, eq_self, and_true, true_and, h0, h5, h6, h21, hget3, hset3, hlen3] | refine And.intro (by omega) ?_))
    have hl3 : Lim 18446744073709551616 (w2 ++ [(Wl.getD (m + 2) 0 + back) % 18446744073709551616]) := lim_snoc hlw2 (Nat.mod_lt _ (by decide))
    have hn3 : (w2 ++ [(Wl.getD (m + 2) 0 + back) % 18446744073709551616]).length = m + 3 := by simp; omega
    have hlt3 := val_lt hl3
    rw [hn3] at hlt3
    have hc3 : (Wl.getD (m + 2) 0 + back) / 18446744073709551616 = 0 ∨ (Wl.getD (m + 2) 0 + back) / 18446744073709551616 = 1 := by omega
    have hfin : val 18446744073709551616 (w2 ++ [(Wl.getD (m + 2) 0 + back) % 18446744073709551616]) = val 18446744073709551616 u % val 18446744073709551616 v := by
      rw [e23] at hlt3
      exact back_end (key3.trans r2) hlt3 hc3
    exact ⟨by rw [r1, Nat.add_sub_cancel], _, rfl, hn3, hl3, hfin⟩
theorem guess_sub (t : Nat) (tv : Tok) (A u D v : List Nat) (m c : Nat) (cap : Option Nat) (hu : Lim 18446744073709551616 u) (hv : Lim 18446744073709551616 v) (hun : u.length = m + 3) (hvn : v.length = m + 2) (hV0 : 0 < val 18446744073709551616 v) (hUlt : val 18446744073709551616 u < 18446744073709551616 ^ (m + 3))
    (hlen : A.length + D.length + m ≤ 4398046511104) (q : Nat) (hq : q < 18446744073709551616) (hQ : val 18446744073709551616 u / val 18446744073709551616 v ≤ q) (hq1 : q ≤ val 18446744073709551616 u / val 18446744073709551616 v + 1)
    (ρ2 : Nat → V) (c2 : Nat) (h0 : ρ2 0 = .buf t A.length (m + 3) cap 1) (h1 : ρ2 1 = nats tv v) (h5 : ρ2 5 = iv ((m + 2 : Nat) : Int)) (h6 : ρ2 6 = nv q) (hc2 : c ≤ c2) :
    VWP Try.prog c R1g (retL R.div_guess fun r σ' c' => c ≤ c' ∧ GPost t A u D v m r (lentσ (supd noBlk t (nblk ((A ++ u) ++ D))) σ') c') ⟨ρ2, supd noBlk t (nblk ((A ++ u) ++ D)), c2⟩ := by
  unfold R1g C.div_guess
  simp only [VCrest]
  (repeat (first | refine v_reg ?_ | refine v_last ?_ | refine vwp_seq ?_ | refine vwp_block ?_ | refine vwp_skip ?_ | refine vwp_exit ?_ | refine vwp_ret ?_ | refine v_cond ?_ | simp only [vm, ite_true, ite_false, reduceIte, Nat.reduceEqDiff, Option.map, decide_eq_true_eq, decide_eq_false_iff_not, Bool.not_eq_true, decide_true, decide_false, Bool.not_true, Bool.not_false, Bool.false_eq_true, not_true_eq_false, not_false_eq_true, eq_self, and_true, true_and, h1, hvn] | refine And.intro (by omega) ?_))
  refine v_loop (fun S => ∃ w carry bo, w.length = m + 2 ∧ Lim 18446744073709551616 w ∧ carry < 18446744073709551616 ∧ bo ≤ 1 ∧ val 18446744073709551616 w + val 18446744073709551616 v * q = val 18446744073709551616 (u.take (m + 2)) + 18446744073709551616 ^ (m + 2) * (carry + bo) ∧ S.ρ 0 = .buf t A.length (m + 3) cap 1 ∧ S.ρ 1 = nats tv v ∧ S.ρ 5 = iv ((m + 2 : Nat) : Int) ∧ S.ρ 6 = nv q ∧ S.ρ 13 = nv carry ∧ S.ρ 14 = nv bo ∧ S.σ = supd noBlk t (nblk ((A ++ (w ++ u.drop (m + 2))) ++ D)) ∧ c ≤ S.c) ?_ ?_
  · refine vwp_loop (fun k S => ∃ i w carry bo, k = m + 2 - i ∧ i ≤ m + 2 ∧ w.length = i ∧ Lim 18446744073709551616 w ∧ carry < 18446744073709551616 ∧ bo ≤ 1 ∧ val 18446744073709551616 w + val 18446744073709551616 (v.take i) * q = val 18446744073709551616 (u.take i) + 18446744073709551616 ^ i * (carry + bo) ∧ S.ρ 0 = .buf t A.length (m + 3) cap 1 ∧ S.ρ 1 = nats tv v ∧ S.ρ 5 = iv ((m + 2 : Nat) : Int) ∧ S.ρ 6 = nv q ∧ S.ρ 13 = nv carry ∧ S.ρ 14 = nv bo ∧ S.ρ 113 = nats tv v ∧ S.ρ 114 = iv ((m + 2 : Nat) : Int) ∧ S.ρ 115 = iv i ∧ S.σ = supd noBlk t (nblk ((A ++ (w ++ u.drop i)) ++ D)) ∧ c ≤ S.c) (m + 2) ?_ ?_
    · refine ⟨0, [], 0, 0, by omega, by omega, ?_⟩
      simp only [vm, ite_true, ite_false, reduceIte, Nat.reduceEqDiff, Option.map, decide_eq_true_eq, decide_eq_false_iff_not, Bool.not_eq_true, decide_true, decide_false, Bool.not_true, Bool.not_false, Bool.false_eq_true, not_true_eq_false, not_false_eq_true, eq_self, and_true, true_and, h0, h1, h5, h6]
      (repeat' apply And.intro) <;> first | rfl | omega | assumption | exact Lim.nil | (simp [val]; done) | (rw [List.nil_append, List.drop_zero])
    rintro k ⟨ρ3, σ, c3⟩ ⟨i, w, carry, bo, hk, hi, hw, hlw, hca, hbo, hinv, h0, h1, h5, h6, h13, h14, h113, h114, h115, hσ, hc3⟩
    dsimp only at h0 h1 h5 h6 h13 h14 h113 h114 h115 hσ hc3
    subst hσ
    by_cases g : (i : Int) < ((m + 2 : Nat) : Int)
    · have hi' : i < m + 2 := by omega
      have hxi := hv.getD (i := i) (by decide)
      have hyi := hu.getD (i := i) (by decide)
      have hvx := val_take' 18446744073709551616 v i
      have hux := val_take' 18446744073709551616 u i
      have hget : ((A ++ (w ++ u.drop i)) ++ D).getD (A.length + i) 0 = u.getD i 0 := by rw [getD_mid _ _ _ _ (by simp; omega), getD_snoc_drop hw (by omega)]
      have hset : ∀ d, ((A ++ (w ++ u.drop i)) ++ D).set (A.length + i) d = (A ++ ((w ++ [d]) ++ u.drop (i + 1))) ++ D := fun d => by rw [set_mid _ _ _ _ _ (by simp; omega), set_snoc_drop hw (by omega)]
      have hlen2 : ((A ++ (w ++ u.drop i)) ++ D).length = A.length + (m + 3) + D.length := by simp; omega
      obtain ⟨e1, e2⟩ := mul_step (v.getD i 0) q carry
      have e3 := mul_step_lt hxi hq hca
      have e4 := Nat.mod_eq_of_lt e3
      (repeat (first | refine v_reg ?_ | refine v_last ?_ | refine vwp_seq ?_ | refine vwp_block ?_ | refine vwp_skip ?_ | refine vwp_exit ?_ | refine vwp_ret ?_ | refine v_cond ?_ | simp only [vm, ite_true, ite_false, reduceIte, Nat.reduceEqDiff, Option.map, decide_eq_true_eq, decide_eq_false_iff_not, Bool.not_eq_true, decide_true, decide_false, Bool.not_true, Bool.not_false, Bool.false_eq_true, not_true_eq_false, not_false_eq_true, eq_self, and_true, true_and, h0, h1, h5, h6, h13, h14, h113, h114, h115, g, hvn] | refine And.intro (by omega) ?_))
      refine s_call (mul64_spec (v.getD i 0) q c3 hxi hq) (by simp only [vm, ite_true, ite_false, reduceIte, Nat.reduceEqDiff, Option.map, decide_eq_true_eq, decide_eq_false_iff_not, Bool.not_eq_true, decide_true, decide_false, Bool.not_true, Bool.not_false, Bool.false_eq_true, not_true_eq_false, not_false_eq_true, eq_self, and_true, true_and, List.map, h6]) ?_
      rintro v1 c4 hc4 rfl
      (repeat (first | refine v_reg ?_ | refine v_last ?_ | refine vwp_seq ?_ | refine vwp_block ?_ | refine vwp_skip ?_ | refine vwp_exit ?_ | refine vwp_ret ?_ | refine v_cond ?_ | simp only [vm, ite_true, ite_false, reduceIte, Nat.reduceEqDiff, Option.map, decide_eq_true_eq, decide_eq_false_iff_not, Bool.not_eq_true, decide_true, decide_false, Bool.not_true, Bool.not_false, Bool.false_eq_true, not_true_eq_false, not_false_eq_true, eq_self, and_true, true_and, h0, h1, h5, h6, h13, h14, h113, h114, h115, Nat.add_zero, e1, e2, e4, hget, hset, hlen2] | refine And.intro (by omega) ?_))
      have hdm := Nat.div_add_mod (v.getD i 0 * q + carry) 18446744073709551616
      have hsm := Nat.mod_lt (v.getD i 0 * q + carry) (show 0 < 18446744073709551616 by decide)
      generalize (v.getD i 0 * q + carry) % 18446744073709551616 = s at *
      generalize (v.getD i 0 * q + carry) / 18446744073709551616 = cc at *
      generalize u.getD i 0 = yy at *
      have hb1 : (if yy < s + bo then 1 else 0) ≤ 1 := by split <;> omega
      have key := msub_step (b := 18446744073709551616) (bo' := if yy < s + bo then 1 else 0) (d := (yy + 18446744073709551616 - s - bo) % 18446744073709551616) (y := yy) hw hinv (by omega : v.getD i 0 * q + carry = s + 18446744073709551616 * cc) (by split <;> omega)
      rw [← hvx, ← hux] at key
      refine ⟨m + 2 - (i + 1), by omega, i + 1, w ++ [(yy + 18446744073709551616 - s - bo) % 18446744073709551616], cc, if yy < s + bo then 1 else 0, ?_⟩
      (repeat' apply And.intro) <;> first | rfl | omega | assumption | (simp [hw]; done) | exact lim_snoc hlw (Nat.mod_lt _ (by decide)) | exact key
    · have hi' : i = m + 2 := by omega
      subst hi'
      rw [List.take_of_length_le (l := v) (by omega)] at hinv
      (repeat (first | refine v_reg ?_ | refine v_last ?_ | refine vwp_seq ?_ | refine vwp_block ?_ | refine vwp_skip ?_ | refine vwp_exit ?_ | refine vwp_ret ?_ | refine v_cond ?_ | simp only [vm, ite_true, ite_false, reduceIte, Nat.reduceEqDiff, Option.map, decide_eq_true_eq, decide_eq_false_iff_not, Bool.not_eq_true, decide_true, decide_false, Bool.not_true, Bool.not_false, Bool.false_eq_true, not_true_eq_false, not_false_eq_true, eq_self, and_true, true_and, h0, h1, h5, h6, h13, h14, h113, h114, h115, g] | refine And.intro (by omega) ?_))
      refine ⟨w, carry, bo, ?_⟩
      (repeat' apply And.intro) <;> first | rfl | omega | assumption
  rintro ⟨ρ3, σ, c3⟩ ⟨w, carry, bo, hw, hlw, hca, hbo, hinv, h0, h1, h5, h6, h13, h14, hσ, hc3⟩
  dsimp only at h0 h1 h5 h6 h13 h14 hσ hc3
  subst hσ
  exact guess_end t tv A u D v m c cap hu hv hun hvn hV0 hUlt hlen q hq hQ hq1 ρ3 c3 w carry bo hw hlw hca hbo hinv h0 h1 h5 h6 h13 h14 hc3
theorem guess_spec (t : Nat) (tv : Tok) (A u D v : List Nat) (m c : Nat) (cap : Option Nat) (hu : Lim 18446744073709551616 u) (hv : Lim 18446744073709551616 v) (hun : u.length = m + 3) (hvn : v.length = m + 2) (hnorm : 9223372036854775808 ≤ v.getD (m + 1) 0) (hlt : val 18446744073709551616 u < val 18446744073709551616 v * 18446744073709551616)
    (hlen : A.length + D.length + m ≤ 4398046511104) :
    VSpecL Try.prog F.div_guess c (supd noBlk t (nblk ((A ++ u) ++ D))) [.buf t A.length (m + 3) cap 1, nats tv v] (GPost t A u D v m) := by
  refine specL_mk hm E.div_guess B.div_guess K.div_guess Q.div_guess (by rw [N.div_guess]; simp) ?_
  unfold C.div_guess R.div_guess
  have hL : ∀ u' : List Nat, u'.length = m + 3 → ((A ++ u') ++ D).length = A.length + (m + 3) + D.length := fun u' h => by simp [h]; omega
  have g2 : ((A ++ u) ++ D).getD (A.length + (m + 2)) 0 = u.getD (m + 2) 0 := getD_mid _ _ _ _ (by omega)
  have g1 : ((A ++ u) ++ D).getD (A.length + (m + 1)) 0 = u.getD (m + 1) 0 := getD_mid _ _ _ _ (by omega)
  have g0 : ((A ++ u) ++ D).getD (A.length + m) 0 = u.getD m 0 := getD_mid _ _ _ _ (by omega)
  have eU := val_three (b := 18446744073709551616) hun
  have eV := val_two (b := 18446744073709551616) hvn
  have htop := top_le (b := 18446744073709551616) (by decide) (n := m + 2) hun hvn (by omega) hv hlt
  rw [show m + 2 - 1 = m + 1 by omega] at htop
  have hlU := take_lt (m := m) hu (by omega)
  have hlV := take_lt (m := m) hv (by omega)
  have hx := hu.getD (i := m + 2) (by decide)
  have hy := hu.getD (i := m + 1) (by decide)
  have hz := hu.getD (i := m) (by decide)
  have hvh := hv.getD (i := m + 1) (by decide)
  have hvl := hv.getD (i := m) (by decide)
  have hUlt := val_lt hu
  have hVlt := val_lt hv
  rw [hun] at hUlt
  have hLu := hL u hun
  have i1 : ((m + 2 : Nat) : Int) - 1 = ((m + 1 : Nat) : Int) := by omega
  have i2 : ((m + 2 : Nat) : Int) - 2 = ((m : Nat) : Int) := by omega
  generalize hxe : u.getD (m + 2) 0 = x at *
  generalize hye : u.getD (m + 1) 0 = y at *
  generalize hze : u.getD m 0 = z at *
  generalize hvhe : v.getD (m + 1) 0 = vh at *
  generalize hvle : v.getD m 0 = vl at *
  obtain ⟨T, hT⟩ : ∃ T, T = z + 18446744073709551616 * (y + 18446744073709551616 * x) := ⟨_, rfl⟩
  obtain ⟨W, hW⟩ : ∃ W, W = vl + 18446744073709551616 * vh := ⟨_, rfl⟩
  rw [← hT] at eU
  rw [← hW] at eV
  have hW0 : 18446744073709551616 ≤ W := by omega
  have hV0 : 0 < val 18446744073709551616 v := by
    have : 0 < 18446744073709551616 ^ m * W := Nat.mul_pos (Nat.pow_pos (by decide)) (by omega)
    omega
  have hQT := est_top eU hlU eV (by omega)
  have hQB : val 18446744073709551616 u / val 18446744073709551616 v < 18446744073709551616 := by rw [Nat.div_lt_iff_lt_mul hV0, Nat.mul_comm]; exact hlt
  obtain ⟨Qq, hQq⟩ : ∃ Qq, Qq = val 18446744073709551616 u / val 18446744073709551616 v := ⟨_, rfl⟩
  rw [← hQq] at hQT hQB
  (repeat (first | refine v_reg ?_ | refine v_last ?_ | refine vwp_seq ?_ | refine vwp_block ?_ | refine vwp_skip ?_ | refine vwp_exit ?_ | refine vwp_ret ?_ | refine v_cond ?_)); simp only [vm, ite_true, ite_false, reduceIte, Nat.reduceEqDiff, Option.map, decide_eq_true_eq, decide_eq_false_iff_not, Bool.not_eq_true, decide_true, decide_false, Bool.not_true, Bool.not_false, Bool.false_eq_true, not_true_eq_false, not_false_eq_true, eq_self, and_true, true_and]
  (repeat (first | refine v_reg ?_ | refine v_last ?_ | refine vwp_seq ?_ | refine vwp_block ?_ | refine vwp_skip ?_ | refine vwp_exit ?_ | refine vwp_ret ?_ | refine v_cond ?_)); simp only [vm, ite_true, ite_false, reduceIte, Nat.reduceEqDiff, Option.map, decide_eq_true_eq, decide_eq_false_iff_not, Bool.not_eq_true, decide_true, decide_false, Bool.not_true, Bool.not_false, Bool.false_eq_true, not_true_eq_false, not_false_eq_true, eq_self, and_true, true_and, hvn]
  (repeat (first | refine v_reg ?_ | refine v_last ?_ | refine vwp_seq ?_ | refine vwp_block ?_ | refine vwp_skip ?_ | refine vwp_exit ?_ | refine vwp_ret ?_ | refine v_cond ?_)); simp only [vm, ite_true, ite_false, reduceIte, Nat.reduceEqDiff, Option.map, decide_eq_true_eq, decide_eq_false_iff_not, Bool.not_eq_true, decide_true, decide_false, Bool.not_true, Bool.not_false, Bool.false_eq_true, not_true_eq_false, not_false_eq_true, eq_self, and_true, true_and]
  (repeat (first | refine v_reg ?_ | refine v_last ?_ | refine vwp_seq ?_ | refine vwp_block ?_ | refine vwp_skip ?_ | refine vwp_exit ?_ | refine vwp_ret ?_ | refine v_cond ?_)); simp only [vm, ite_true, ite_false, reduceIte, Nat.reduceEqDiff, Option.map, decide_eq_true_eq, decide_eq_false_iff_not, Bool.not_eq_true, decide_true, decide_false, Bool.not_true, Bool.not_false, Bool.false_eq_true, not_true_eq_false, not_false_eq_true, eq_self, and_true, true_and]
  refine v_cut (fun S => ∃ q r sure, S.ρ 0 = .buf t A.length (m + 3) cap 1 ∧ S.ρ 1 = nats tv v ∧ S.ρ 5 = iv ((m + 2 : Nat) : Int) ∧ S.ρ 6 = nv q ∧ S.ρ 7 = nv r ∧ S.ρ 8 = bv sure ∧ S.σ = supd noBlk t (nblk ((A ++ u) ++ D)) ∧ c ≤ S.c ∧ q < 18446744073709551616 ∧ r < 18446744073709551616 ∧ Qq ≤ q ∧ (sure = false → q * vh + r = y + 18446744073709551616 * x) ∧ (sure = true → q * W ≤ T)) ?_ ?_
  · by_cases gx : vh ≤ x
    · have hxv : x = vh := by omega
      have ee : (18446744073709551616 - 1) * vh + (y + vh) = y + 18446744073709551616 * x := by rw [hxv]; omega
      by_cases go : y + vh < 18446744073709551616
      · have eo : (y + vh) / 18446744073709551616 = 0 := Nat.div_eq_of_lt go
        have em : (y + vh) % 18446744073709551616 = y + vh := Nat.mod_eq_of_lt go
        (repeat (first | refine v_reg ?_ | refine v_last ?_ | refine vwp_seq ?_ | refine vwp_block ?_ | refine vwp_skip ?_ | refine vwp_exit ?_ | refine vwp_ret ?_ | refine v_cond ?_ | simp only [vm, ite_true, ite_false, reduceIte, Nat.reduceEqDiff, Option.map, decide_eq_true_eq, decide_eq_false_iff_not, Bool.not_eq_true, decide_true, decide_false, Bool.not_true, Bool.not_false, Bool.false_eq_true, not_true_eq_false, not_false_eq_true, eq_self, and_true, true_and, hvn, i1, g2, g1, hLu, hvhe, gx, eo, em, Nat.add_zero] | refine And.intro (by omega) ?_))
        refine ⟨18446744073709551615, y + vh, false, ?_⟩
        (repeat' apply And.intro) <;> first | rfl | omega | assumption | exact fun _ => ee | (intro h; cases h)
      · have eo : (y + vh) / 18446744073709551616 = 1 := by omega
        have hb := knuth_big hT hW ee (by decide) (Nat.le_of_lt hvl) (by omega)
        (repeat (first | refine v_reg ?_ | refine v_last ?_ | refine vwp_seq ?_ | refine vwp_block ?_ | refine vwp_skip ?_ | refine vwp_exit ?_ | refine vwp_ret ?_ | refine v_cond ?_ | simp only [vm, ite_true, ite_false, reduceIte, Nat.reduceEqDiff, Option.map, decide_eq_true_eq, decide_eq_false_iff_not, Bool.not_eq_true, decide_true, decide_false, Bool.not_true, Bool.not_false, Bool.false_eq_true, not_true_eq_false, not_false_eq_true, eq_self, and_true, true_and, hvn, i1, g2, g1, hLu, hvhe, gx, eo, Nat.add_zero] | refine And.intro (by omega) ?_))
        refine ⟨18446744073709551615, (y + vh) % 18446744073709551616, true, ?_⟩
        (repeat' apply And.intro) <;> first | rfl | omega | assumption | exact Nat.mod_lt _ (by decide) | (intro h; cases h; done) | exact fun _ => hb
    · have gx' : ¬ vh ≤ x := gx
      (repeat (first | refine v_reg ?_ | refine v_last ?_ | refine vwp_seq ?_ | refine vwp_block ?_ | refine vwp_skip ?_ | refine vwp_exit ?_ | refine vwp_ret ?_ | refine v_cond ?_ | simp only [vm, ite_true, ite_false, reduceIte, Nat.reduceEqDiff, Option.map, decide_eq_true_eq, decide_eq_false_iff_not, Bool.not_eq_true, decide_true, decide_false, Bool.not_true, Bool.not_false, Bool.false_eq_true, not_true_eq_false, not_false_eq_true, eq_self, and_true, true_and, hvn, i1, g2, g1, hLu, hvhe, gx'] | refine And.intro (by omega) ?_))
      have en : x * 18446744073709551616 + y = y + 18446744073709551616 * x := by omega
      refine s_call (div64_spec x y vh c hy hvh (by omega)) (by simp only [vm, ite_true, ite_false, reduceIte, Nat.reduceEqDiff, Option.map, decide_eq_true_eq, decide_eq_false_iff_not, Bool.not_eq_true, decide_true, decide_false, Bool.not_true, Bool.not_false, Bool.false_eq_true, not_true_eq_false, not_false_eq_true, eq_self, and_true, true_and, List.map]) ?_
      rintro v1 c2 hc2 rfl
      rw [en]
      have hdm := Nat.div_add_mod (y + 18446744073709551616 * x) vh
      have hmod := Nat.mod_lt (y + 18446744073709551616 * x) (show 0 < vh by omega)
      have hqb : (y + 18446744073709551616 * x) / vh < 18446744073709551616 := by rw [← en]; exact dig_lt (by omega) hy
      have hup := kd_up (n := y + 18446744073709551616 * x) (b := 18446744073709551616) (u := z) (v := W) (v1 := vh) (v0 := vl) (by decide) hz (by omega) (by omega)
      have eT : (y + 18446744073709551616 * x) * 18446744073709551616 + z = T := by rw [hT, Nat.mul_comm, Nat.add_comm]
      rw [eT] at hup
      rw [Nat.mul_comm vh] at hdm
      generalize (y + 18446744073709551616 * x) / vh = q at *
      generalize (y + 18446744073709551616 * x) % vh = r at *
      (repeat (first | refine v_reg ?_ | refine v_last ?_ | refine vwp_seq ?_ | refine vwp_block ?_ | refine vwp_skip ?_ | refine vwp_exit ?_ | refine vwp_ret ?_ | refine v_cond ?_ | simp only [vm, ite_true, ite_false, reduceIte, Nat.reduceEqDiff, Option.map, decide_eq_true_eq, decide_eq_false_iff_not, Bool.not_eq_true, decide_true, decide_false, Bool.not_true, Bool.not_false, Bool.false_eq_true, not_true_eq_false, not_false_eq_true, eq_self, and_true, true_and, hvn, i1, g2, g1, hLu, hvhe, gx'] | refine And.intro (by omega) ?_))
      refine ⟨q, r, false, ?_⟩
      (repeat' apply And.intro) <;> first | rfl | omega | assumption | exact fun _ => hdm | (intro h; cases h)
  rintro ⟨ρ1, σ, c1⟩ ⟨q0, r0, sure0, h0, h1, h5, h6, h7, h8, hσ, hc1, hq0, hr0, hQ0, hs0, ht0⟩
  dsimp only at h0 h1 h5 h6 h7 h8 hσ hc1
  subst hσ
  (repeat (first | refine vwp_seq ?_ | refine vwp_block ?_))
  refine v_loop (fun S => ∃ q, S.ρ 0 = .buf t A.length (m + 3) cap 1 ∧ S.ρ 1 = nats tv v ∧ S.ρ 5 = iv ((m + 2 : Nat) : Int) ∧ S.ρ 6 = nv q ∧ S.σ = supd noBlk t (nblk ((A ++ u) ++ D)) ∧ c ≤ S.c ∧ q < 18446744073709551616 ∧ Qq ≤ q ∧ q * W ≤ T) ?_ ?_
  · refine vwp_loop (fun k S => ∃ q r sure, k = q ∧ S.ρ 0 = .buf t A.length (m + 3) cap 1 ∧ S.ρ 1 = nats tv v ∧ S.ρ 5 = iv ((m + 2 : Nat) : Int) ∧ S.ρ 6 = nv q ∧ S.ρ 7 = nv r ∧ S.ρ 8 = bv sure ∧ S.σ = supd noBlk t (nblk ((A ++ u) ++ D)) ∧ c ≤ S.c ∧ q < 18446744073709551616 ∧ r < 18446744073709551616 ∧ Qq ≤ q ∧ (sure = false → q * vh + r = y + 18446744073709551616 * x) ∧ (sure = true → q * W ≤ T)) q0 ?_ ?_
    · exact ⟨q0, r0, sure0, rfl, h0, h1, h5, h6, h7, h8, rfl, hc1, hq0, hr0, hQ0, hs0, ht0⟩
    rintro k ⟨ρ2, σ, c2⟩ ⟨q, r, sure, hk, h0, h1, h5, h6, h7, h8, hσ, hc2, hq, hr, hQ, hs, ht⟩
    dsimp only at h0 h1 h5 h6 h7 h8 hσ hc2
    subst hσ
    cases sure with
    | true =>
      (repeat (first | refine v_reg ?_ | refine v_last ?_ | refine vwp_seq ?_ | refine vwp_block ?_ | refine vwp_skip ?_ | refine vwp_exit ?_ | refine vwp_ret ?_ | refine v_cond ?_ | simp only [vm, ite_true, ite_false, reduceIte, Nat.reduceEqDiff, Option.map, decide_eq_true_eq, decide_eq_false_iff_not, Bool.not_eq_true, decide_true, decide_false, Bool.not_true, Bool.not_false, Bool.false_eq_true, not_true_eq_false, not_false_eq_true, eq_self, and_true, true_and, h0, h1, h5, h6, h7, h8] | refine And.intro (by omega) ?_))
      exact ⟨q, rfl, hc2, hq, hQ, ht rfl⟩
    | false =>
      have he := hs rfl
      (repeat (first | refine v_reg ?_ | refine v_last ?_ | refine vwp_seq ?_ | refine vwp_block ?_ | refine vwp_skip ?_ | refine vwp_exit ?_ | refine vwp_ret ?_ | refine v_cond ?_ | simp only [vm, ite_true, ite_false, reduceIte, Nat.reduceEqDiff, Option.map, decide_eq_true_eq, decide_eq_false_iff_not, Bool.not_eq_true, decide_true, decide_false, Bool.not_true, Bool.not_false, Bool.false_eq_true, not_true_eq_false, not_false_eq_true, eq_self, and_true, true_and, h0, h1, h5, h6, h7, h8, i1, i2, hvle] | refine And.intro (by omega) ?_))
      refine s_call (mul64_spec q vl c2 hq hvl) (by simp only [vm, ite_true, ite_false, reduceIte, Nat.reduceEqDiff, Option.map, decide_eq_true_eq, decide_eq_false_iff_not, Bool.not_eq_true, decide_true, decide_false, Bool.not_true, Bool.not_false, Bool.false_eq_true, not_true_eq_false, not_false_eq_true, eq_self, and_true, true_and, List.map]) ?_
      rintro v1 c3 hc3 rfl
      have hcmp := pair_le (B := 18446744073709551616) (p := q * vl) (r := r) (z := z) (by decide) hz
      have fin : q * vl ≤ r * 18446744073709551616 + z → q * W ≤ T := fun h => knuth_ok hT hW he h
      have hno : ¬ q * vl ≤ r * 18446744073709551616 + z → 0 < q ∧ Qq ≤ q - 1 := fun h => by
        have h1 := knuth_no hT hW he (by omega)
        have h2 : T / W < q := by rw [Nat.div_lt_iff_lt_mul (by omega)]; exact h1
        omega
      by_cases k1 : q * vl / 18446744073709551616 < r
      · have := fin (hcmp.2 (.inl k1))
        (repeat (first | refine v_reg ?_ | refine v_last ?_ | refine vwp_seq ?_ | refine vwp_block ?_ | refine vwp_skip ?_ | refine vwp_exit ?_ | refine vwp_ret ?_ | refine v_cond ?_ | simp only [vm, ite_true, ite_false, reduceIte, Nat.reduceEqDiff, Option.map, decide_eq_true_eq, decide_eq_false_iff_not, Bool.not_eq_true, decide_true, decide_false, Bool.not_true, Bool.not_false, Bool.false_eq_true, not_true_eq_false, not_false_eq_true, eq_self, and_true, true_and, h0, h1, h5, h6, h7, h8, i1, i2, k1] | refine And.intro (by omega) ?_))
        exact ⟨q, rfl, by omega, hq, hQ, this⟩
      by_cases k2 : q * vl / 18446744073709551616 = r
      · by_cases k3 : q * vl % 18446744073709551616 ≤ z
        · have := fin (hcmp.2 (.inr ⟨k2, k3⟩))
          (repeat (first | refine v_reg ?_ | refine v_last ?_ | refine vwp_seq ?_ | refine vwp_block ?_ | refine vwp_skip ?_ | refine vwp_exit ?_ | refine vwp_ret ?_ | refine v_cond ?_ | simp only [vm, ite_true, ite_false, reduceIte, Nat.reduceEqDiff, Option.map, decide_eq_true_eq, decide_eq_false_iff_not, Bool.not_eq_true, decide_true, decide_false, Bool.not_true, Bool.not_false, Bool.false_eq_true, not_true_eq_false, not_false_eq_true, eq_self, and_true, true_and, h0, h1, h5, h6, h7, h8, i1, i2, k1, k2, k3, g0, hLu, Nat.lt_irrefl] | refine And.intro (by omega) ?_))
          exact ⟨q, rfl, by omega, hq, hQ, this⟩
        · have hn : ¬ q * vl ≤ r * 18446744073709551616 + z := fun h => by rcases hcmp.1 h with h | ⟨_, h⟩ <;> omega
          obtain ⟨hq1, hQ1⟩ := hno hn
          have hnx := kd_next hq1 he
          have hd := dec_mod64 hq1 hq
          by_cases go : r + vh < 18446744073709551616
          · have eo : (r + vh) / 18446744073709551616 = 0 := Nat.div_eq_of_lt go
            have em : (r + vh) % 18446744073709551616 = r + vh := Nat.mod_eq_of_lt go
            (repeat (first | refine v_reg ?_ | refine v_last ?_ | refine vwp_seq ?_ | refine vwp_block ?_ | refine vwp_skip ?_ | refine vwp_exit ?_ | refine vwp_ret ?_ | refine v_cond ?_ | simp only [vm, ite_true, ite_false, reduceIte, Nat.reduceEqDiff, Option.map, decide_eq_true_eq, decide_eq_false_iff_not, Bool.not_eq_true, decide_true, decide_false, Bool.not_true, Bool.not_false, Bool.false_eq_true, not_true_eq_false, not_false_eq_true, eq_self, and_true, true_and, h0, h1, h5, h6, h7, h8, i1, i2, k1, k2, k3, g0, hLu, Nat.lt_irrefl, hd, hvhe, eo, em, Nat.add_zero] | refine And.intro (by omega) ?_))
            exact ⟨q - 1, by omega, q - 1, r + vh, false, rfl, rfl, rfl, rfl, by omega, by omega, go, hQ1, fun _ => hnx, fun h => (by cases h)⟩
          · have eo : (r + vh) / 18446744073709551616 = 1 := by omega
            have hb := knuth_big hT hW hnx (by omega) (Nat.le_of_lt hvl) (by omega)
            (repeat (first | refine v_reg ?_ | refine v_last ?_ | refine vwp_seq ?_ | refine vwp_block ?_ | refine vwp_skip ?_ | refine vwp_exit ?_ | refine vwp_ret ?_ | refine v_cond ?_ | simp only [vm, ite_true, ite_false, reduceIte, Nat.reduceEqDiff, Option.map, decide_eq_true_eq, decide_eq_false_iff_not, Bool.not_eq_true, decide_true, decide_false, Bool.not_true, Bool.not_false, Bool.false_eq_true, not_true_eq_false, not_false_eq_true, eq_self, and_true, true_and, h0, h1, h5, h6, h7, h8, i1, i2, k1, k2, k3, g0, hLu, Nat.lt_irrefl, hd, hvhe, eo, Nat.add_zero] | refine And.intro (by omega) ?_))
            exact ⟨q - 1, rfl, by omega, by omega, hQ1, hb⟩
      · have hn : ¬ q * vl ≤ r * 18446744073709551616 + z := fun h => by rcases hcmp.1 h with h | ⟨h, _⟩ <;> omega
        obtain ⟨hq1, hQ1⟩ := hno hn
        have hnx := kd_next hq1 he
        have hd := dec_mod64 hq1 hq
        by_cases go : r + vh < 18446744073709551616
        · have eo : (r + vh) / 18446744073709551616 = 0 := Nat.div_eq_of_lt go
          have em : (r + vh) % 18446744073709551616 = r + vh := Nat.mod_eq_of_lt go
          (repeat (first | refine v_reg ?_ | refine v_last ?_ | refine vwp_seq ?_ | refine vwp_block ?_ | refine vwp_skip ?_ | refine vwp_exit ?_ | refine vwp_ret ?_ | refine v_cond ?_ | simp only [vm, ite_true, ite_false, reduceIte, Nat.reduceEqDiff, Option.map, decide_eq_true_eq, decide_eq_false_iff_not, Bool.not_eq_true, decide_true, decide_false, Bool.not_true, Bool.not_false, Bool.false_eq_true, not_true_eq_false, not_false_eq_true, eq_self, and_true, true_and, h0, h1, h5, h6, h7, h8, i1, i2, k1, k2, g0, hLu, Nat.lt_irrefl, hd, hvhe, eo, em, Nat.add_zero] | refine And.intro (by omega) ?_))
          exact ⟨q - 1, by omega, q - 1, r + vh, false, rfl, rfl, rfl, rfl, by omega, by omega, go, hQ1, fun _ => hnx, fun h => (by cases h)⟩
        · have eo : (r + vh) / 18446744073709551616 = 1 := by omega
          have hb := knuth_big hT hW hnx (by omega) (Nat.le_of_lt hvl) (by omega)
          (repeat (first | refine v_reg ?_ | refine v_last ?_ | refine vwp_seq ?_ | refine vwp_block ?_ | refine vwp_skip ?_ | refine vwp_exit ?_ | refine vwp_ret ?_ | refine v_cond ?_ | simp only [vm, ite_true, ite_false, reduceIte, Nat.reduceEqDiff, Option.map, decide_eq_true_eq, decide_eq_false_iff_not, Bool.not_eq_true, decide_true, decide_false, Bool.not_true, Bool.not_false, Bool.false_eq_true, not_true_eq_false, not_false_eq_true, eq_self, and_true, true_and, h0, h1, h5, h6, h7, h8, i1, i2, k1, k2, g0, hLu, Nat.lt_irrefl, hd, hvhe, eo, Nat.add_zero] | refine And.intro (by omega) ?_))
          exact ⟨q - 1, rfl, by omega, by omega, hQ1, hb⟩
  rintro ⟨ρ2, σ, c2⟩ ⟨q, h0, h1, h5, h6, hσ, hc2, hq, hQ, hqW⟩
  dsimp only at h0 h1 h5 h6 hσ hc2
  subst hσ
  have hq1 := est_low (q := q) eU eV hlV hqW (Nat.le_of_lt hq) hW0 hV0
  exact guess_sub t tv A u D v m c cap hu hv hun hvn hV0 hUlt hlen q hq (by omega) hq1 ρ2 c2 h0 h1 h5 h6 hc2
end Go.Proofs.Ytladcfeibpddeab
