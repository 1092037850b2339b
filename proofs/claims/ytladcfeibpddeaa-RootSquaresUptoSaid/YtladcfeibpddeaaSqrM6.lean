/- The claim of RootSquares (the second root, what is left, the next one up, and whether it is a square) of the program holds: whatever list and numbers come in (of bulk at most 1048576 in all, as the statement says), the law answers true, and memory that was there is as it was. -/
import Derived.Test.YtladcfeibpddeaaSqrM5
set_option linter.unusedSimpArgs false
set_option linter.unusedVariables false
set_option maxRecDepth 100000
set_option maxHeartbeats 8000000
namespace Go.Proofs.Ytladcfeibpddeaa
open Go.VM Go.RowKit

/-! ### answers that can't be -/
theorem rep_nil_len {w : World} {M : Nat → Prop} {μ : Nat → Nat} {c : Nat} {l : List Nat} {v : Value} (h : Rep w M μ c (nats .nil l) v) : l = [] := by
  generalize e : nats .nil l = x at h
  cases h with
  | nil tk sz =>
    simp only [nats, V.sl.injEq] at e
    exact List.map_eq_nil_iff.1 e.2.2
  | sl tk sz n cap a l' vs ht hn hc hs hMb hcap h1 hl =>
    simp only [nats, V.sl.injEq] at e
    obtain ⟨rfl, rfl, rfl⟩ := e
    have h0 : cap * 1 = 0 := ht
    have : (l.map nv).length = 0 := by omega
    exact List.map_eq_nil_iff.1 (List.eq_nil_of_length_eq_zero this)
  | any | lit | agg | tup => cases e
/-- no value is this one -/
def Void (r : V) : Prop := ∀ w M μ c v, ¬ RepE w M μ c r v
theorem void_tup {l : List V} {x : List Nat} (hm0 : nats .nil x ∈ l) (hx : x ≠ []) : Void (.tup l) := by
  intro w M μ c v h
  have h : Rep w M μ c (.tup l) v := h
  cases h with
  | tup _ cs hn hl =>
    obtain ⟨j, hj⟩ := List.getElem?_of_mem hm0
    have hjl := (List.getElem?_eq_some_iff.1 hj).1
    have := hl j _ _ hj (Array.getElem?_eq_getElem (by omega))
    exact hx (rep_nil_len this)
theorem void_one {x : List Nat} (hx : x ≠ []) : Void (nats .nil x) := fun w M μ c v h => hx (rep_nil_len h)
theorem VSpec.clean {P : Program} {f : FuncId} {c : Nat} {xs : List V} {Q1 Q2 : V → Nat → Prop} (h : VSpec P f c xs Q1) (hq : ∀ r c', c ≤ c' → Q1 r c' → Q2 r c' ∨ (Void r ∧ ∃ r2 c2, c ≤ c2 ∧ Q2 r2 c2)) : VSpec P f c xs Q2 := by
  obtain ⟨r, c', h0, h1, h2⟩ := h
  rcases hq r c' h0 h2 with h | ⟨hv, r2, c2, h3, h4⟩
  · exact ⟨r, c', h0, h1, h⟩
  · refine ⟨r2, c2, h3, fun w Φ μ vs hm0 hn ha => (h1 w Φ μ vs hm0 hn ha).mono ?_, h4⟩
    rintro e w' ⟨v, μ', _, _, hr⟩
    exact absurd hr (hv _ _ _ _ _)

/-- nothing, or a row in memory of its own -/
def Row1 (lo hi : Nat) (t : Tok) (l : List Nat) : Prop := (t = .nil ∧ l = []) ∨ ∃ i, t = .id i ∧ lo ≤ i ∧ i < hi
theorem Row1.mono {a b c d : Nat} {t : Tok} {l : List Nat} (h : Row1 a b t l) (h1 : c ≤ a) (h2 : b ≤ d) : Row1 c d t l := by
  rcases h with h | ⟨i, h, h3, h4⟩
  · exact .inl h
  · exact .inr ⟨i, h, by omega, by omega⟩
theorem Row1.of {a b : Nat} {t : Tok} {l : List Nat} (h : Tk a b t) (hl : t = .nil → l = []) : Row1 a b t l := by
  rcases h with rfl | ⟨i, rfl, h⟩
  · exact .inl ⟨rfl, hl rfl⟩
  · exact .inr ⟨i, rfl, h⟩
theorem tk_nil_or {a b : Nat} {t : Tok} (l : List Nat) (h : Tk a b t) : Row1 a b t l ∨ (t = .nil ∧ l ≠ []) := by
  by_cases e : t = .nil ∧ l ≠ []
  · exact .inr e
  · refine .inl (.of h fun e1 => ?_)
    cases l with
    | nil => rfl
    | cons x r => exact absurd ⟨e1, by simp⟩ e

theorem nodup_nodupB : ∀ {l : List Nat}, l.Nodup → nodupB l = true
  | [], _ => rfl
  | a :: r, h => by
    obtain ⟨h1, h2⟩ := List.nodup_cons.1 h
    simp only [nodupB, Bool.and_eq_true, Bool.not_eq_true', List.contains_eq_mem, decide_eq_false_iff_not]
    exact ⟨h1, nodup_nodupB h2⟩

abbrev rowsV (ps : List (Tok × List Nat)) : List V := ps.map fun p => nats p.1 p.2
theorem mem_ids {ps : List (Tok × List Nat)} {i : Nat} (h : i ∈ ids (rowsV ps)) : ∃ p ∈ ps, p.1 = .id i := by
  obtain ⟨x, hx, e⟩ := List.mem_filterMap.1 h
  obtain ⟨p, hp, rfl⟩ := List.mem_map.1 hx
  obtain ⟨t, l⟩ := p
  cases t with
  | id j => simp at e; subst e; exact ⟨_, hp, rfl⟩
  | _ => simp at e
theorem ids_nodup : ∀ {ps : List (Tok × List Nat)}, ps.Pairwise (fun p q => Apt p.1 q.1) → (ids (rowsV ps)).Nodup
  | [], _ => List.nodup_nil
  | (t, l) :: ps, h => by
    obtain ⟨h1, h2⟩ := List.pairwise_cons.1 h
    have ih := ids_nodup h2
    cases t with
    | id j =>
      refine List.nodup_cons.2 ⟨fun hm0 => ?_, ih⟩
      obtain ⟨q, hq, e⟩ := mem_ids hm0
      exact h1 q hq j rfl e
    | nil => exact ih
    | unk => exact ih
    | sub j => exact ih
theorem ownable_of {c0 lo tL : Nat} {ps : List (Tok × List Nat)} (hc : c0 ≤ lo) (h0 : 0 < ps.length) (h1 : ps.length ≤ 1000000) (hp : ∀ p ∈ ps, Row1 lo tL p.1 p.2 ∧ p.2.length ≤ 4398046511104) (hl : lo ≤ tL) (ha : ps.Pairwise (fun p q => Apt p.1 q.1)) : ownable c0 tL (rowsV ps) = true := by
  simp only [ownable, Bool.and_eq_true, decide_eq_true_eq, List.all_eq_true]
  have hid : ∀ i ∈ ids (rowsV ps), lo ≤ i ∧ i < tL := fun i hi => by
    obtain ⟨p, hpm, e⟩ := mem_ids hi
    rcases (hp p hpm).1 with ⟨e1, _⟩ | ⟨j, e1, h3, h4⟩
    · rw [e] at e1; cases e1
    · rw [e] at e1; cases e1; exact ⟨h3, h4⟩
  refine ⟨⟨⟨⟨by simpa using h0, by simpa using h1⟩, fun x hx => ?_⟩, fun t ht => ?_⟩, nodup_nodupB (List.nodup_cons.2 ⟨fun h => ?_, ids_nodup ha⟩)⟩
  · obtain ⟨p, hpm, rfl⟩ := List.mem_map.1 hx
    obtain ⟨t, l⟩ := p
    obtain ⟨h2, h3⟩ := hp _ hpm
    rcases h2 with ⟨e1, e2⟩ | ⟨i, e1, _⟩
    · simp only at e1 e2; subst e1 e2; rfl
    · simp only at e1 h3; subst e1
      simp [rowable, h3]
  · rcases List.mem_cons.1 ht with rfl | h
    · omega
    · have := hid t h; omega
  · have := hid tL h; omega

theorem thawL_lit (ts : List Nat) (v : Value) : V.thawL ts (.lit v) = .lit v := by
  unfold V.thawL
  rw [if_pos (List.all_eq_true.2 fun t _ => (show V.still t 4 (.lit v) = true from rfl))]
theorem thawL_nats {ts : List Nat} {t : Tok} {l : List Nat} (h : ∀ q ∈ ts, t.apart q = true) : V.thawL ts (nats t l) = nats t l := by
  unfold V.thawL
  rw [if_pos]
  refine List.all_eq_true.2 fun q hq => ?_
  simp only [V.still, Bool.and_eq_true, List.all_eq_true, List.mem_map]
  refine ⟨h q hq, ?_⟩
  rintro x ⟨n, _, rfl⟩
  rfl
theorem thawL_kn {lo tL : Nat} {ps : List (Tok × List Nat)} (hp : ∀ p ∈ ps, Row1 lo tL p.1 p.2 ∧ p.2.length ≤ 4398046511104) (hl : lo ≤ tL) {t : Tok} {l : List Nat} (h : Kn lo t) : V.thawL (tL :: ids (rowsV ps)) (nats t l) = nats t l := by
  refine thawL_nats fun q hq => ?_
  have hq : lo ≤ q := by
    rcases List.mem_cons.1 hq with rfl | h
    · exact hl
    · obtain ⟨p, hpm, e⟩ := mem_ids h
      rcases (hp p hpm).1 with ⟨e1, _⟩ | ⟨j, e1, h3, h4⟩
      · rw [e] at e1; cases e1
      · rw [e] at e1; cases e1; exact h3
  rcases h with rfl | ⟨i, rfl | rfl, hi⟩
  · rfl
  · exact beq_no (by omega)
  · exact beq_no (by omega)
theorem killed_own (ts : List Nat) (ρ : Nat → V) (j : Nat) : kill (some (.inr ts)) ρ j = (ρ j).thawL ts := rfl

section
variable {P : Program} {c0 : Nat} {ρ : Nat → V} {c i : Nat} {r : List VO} {K : VS → Prop}
/-- rows are given away (no buffer is live) -/
theorem s_own {f : FuncId} {x : X} {tL lo : Nat} {ps : List (Tok × List Nat)} (hf : OwnSpec P f) (hx : x.ev ρ = .sl (.id tL) 1 (rowsV ps)) (hc : c0 ≤ lo) (h0 : 0 < ps.length) (h1 : ps.length ≤ 1000000) (hp : ∀ p ∈ ps, Row1 lo tL p.1 p.2 ∧ p.2.length ≤ 4398046511104) (hl : lo ≤ tL) (ha : ps.Pairwise (fun p q => Apt p.1 q.1))
    (hk : wps P false c0 r ⟨upd (kill (some (.inr (tL :: ids (rowsV ps)))) ρ) i (bv true), noBlk, c⟩ K) : wps P false c0 (⟨some i, .call f [x], none⟩ :: r) ⟨ρ, noBlk, c⟩ K := by
  show opS P false c0 (.call f [x]) (some i) _ _
  refine ⟨_, _, _, _, .own rfl hf hx (ownable_of hc h0 h1 hp hl ha), ?_⟩
  have e : (fun t => if (tL :: ids (rowsV ps)).contains t = true then none else (noBlk t).map fun b => (⟨b.cells.map (V.thawL (tL :: ids (rowsV ps))), b.live⟩ : Blk)) = noBlk := by
    funext t
    split <;> rfl
  simp only [e]
  exact hk
variable {σ : Nat → Option Blk} {dr : Bool}
theorem s_rows1 {x : X} {p : Tok × List Nat} (h0 : x.ev ρ = nats p.1 p.2) (hk : wps P dr c0 r ⟨upd ρ i (.sl (.id c) 1 (rowsV [p])), σ, c + 1⟩ K) : wps P dr c0 (⟨some i, .bsl true 1 1 [.slice none 0 0] [(0, (1, x))], none⟩ :: r) ⟨ρ, σ, c⟩ K := by
  refine s_eff rfl (by intros; exact fun h => by cases h) (by intros; exact fun h => by cases h) ⟨_, _, _, none, .bsl (cs := rowsV [p]) ?_, hk⟩
  simp only [partsOf, List.map, h0]
  rfl
theorem s_rows2 {x y : X} {p q : Tok × List Nat} (h0 : x.ev ρ = nats p.1 p.2) (h1 : y.ev ρ = nats q.1 q.2) (hk : wps P dr c0 r ⟨upd ρ i (.sl (.id c) 1 (rowsV [p, q])), σ, c + 1⟩ K) : wps P dr c0 (⟨some i, .bsl true 1 2 [.slice none 0 0] [(0, (1, x)), (1, (1, y))], none⟩ :: r) ⟨ρ, σ, c⟩ K := by
  refine s_eff rfl (by intros; exact fun h => by cases h) (by intros; exact fun h => by cases h) ⟨_, _, _, none, .bsl (cs := rowsV [p, q]) ?_, hk⟩
  simp only [partsOf, List.map, h0, h1]
  rfl
theorem s_rows3 {x y z : X} {p q s : Tok × List Nat} (h0 : x.ev ρ = nats p.1 p.2) (h1 : y.ev ρ = nats q.1 q.2) (h2 : z.ev ρ = nats s.1 s.2) (hk : wps P dr c0 r ⟨upd ρ i (.sl (.id c) 1 (rowsV [p, q, s])), σ, c + 1⟩ K) : wps P dr c0 (⟨some i, .bsl true 1 3 [.slice none 0 0] [(0, (1, x)), (1, (1, y)), (2, (1, z))], none⟩ :: r) ⟨ρ, σ, c⟩ K := by
  refine s_eff rfl (by intros; exact fun h => by cases h) (by intros; exact fun h => by cases h) ⟨_, _, _, none, .bsl (cs := rowsV [p, q, s]) ?_, hk⟩
  simp only [partsOf, List.map, h0, h1, h2]
  rfl
end

/-- the answers of 'Root', in memory of their own -/
def RootO (c c' A0 k : Nat) (r : V) : Prop := (bl A0 ≤ 67108864 ∧ ∃ x t1 t2, IsRoot A0 k x ∧ r = .tup [nats t1 (digs 18446744073709551616 x), nats t2 (digs 18446744073709551616 (A0 - x ^ k)), iv 0] ∧ Row1 c c' t1 (digs 18446744073709551616 x) ∧ Row1 c c' t2 (digs 18446744073709551616 (A0 - x ^ k)) ∧ Apt t1 t2) ∨ (67108864 < bl A0 ∧ r = .tup [nil1, nil1, iv 3])
theorem apt_next (c : Nat) : Apt (.id c) (.id (c + 1)) := fun i h1 h2 => by cases h1; cases h2
theorem rootO_of {c c' A0 k : Nat} {r : V} (hc : c ≤ c') (h : RootS c c' A0 k r) : RootO c c' A0 k r ∨ (Void r ∧ ∃ r2 c2, c ≤ c2 ∧ RootO c c2 A0 k r2) := by
  rcases h with ⟨hb, x, t1, t2, hx, rfl, h1, h2, h3⟩ | h
  · have bad : Void (.tup [nats t1 (digs 18446744073709551616 x), nats t2 (digs 18446744073709551616 (A0 - x ^ k)), iv 0]) → Void (.tup [nats t1 (digs 18446744073709551616 x), nats t2 (digs 18446744073709551616 (A0 - x ^ k)), iv 0]) ∧ ∃ r2 c2, c ≤ c2 ∧ RootO c c2 A0 k r2 := fun hv =>
      ⟨hv, _, c + 2, by omega, .inl ⟨hb, x, .id c, .id (c + 1), hx, rfl, .inr ⟨c, rfl, by omega, by omega⟩, .inr ⟨c + 1, rfl, by omega, by omega⟩, apt_next c⟩⟩
    rcases tk_nil_or (digs 18446744073709551616 x) h1 with g1 | ⟨rfl, g1⟩
    · rcases tk_nil_or (digs 18446744073709551616 (A0 - x ^ k)) h2 with g2 | ⟨rfl, g2⟩
      · exact .inl (.inl ⟨hb, x, t1, t2, hx, rfl, g1, g2, h3⟩)
      · exact .inr (bad (void_tup (by simp) g2))
    · exact .inr (bad (void_tup (by simp) g1))
  · exact .inl (.inr h)
theorem root_specO (t : Tok) (a : List Nat) (k : Int) (c : Nat) (ha : Lim 18446744073709551616 a) (hna : a.length ≤ 1099511627776) (hk : k < 9223372036854775808) :
    VSpec Try.prog F.roots_Root c [nats t a, iv k] (fun r c' => (k < 1 → r = .tup [nil1, nil1, iv 40]) ∧ (1 ≤ k → RootO c c' (val 18446744073709551616 a) k.toNat r)) := by
  refine VSpec.clean (root_specS t a k c ha hna hk) fun r c' hc ⟨h1, h2⟩ => ?_
  by_cases g : k < 1
  · exact .inl ⟨h1, fun h => by omega⟩
  · rcases rootO_of hc (h2 (by omega)) with h | ⟨hv, r2, c2, h3, h4⟩
    · exact .inl ⟨h1, fun _ => h⟩
    · exact .inr ⟨hv, r2, c2, h3, fun h => by omega, fun _ => h4⟩
theorem sqrt_specO (t : Tok) (a : List Nat) (c : Nat) (ha : Lim 18446744073709551616 a) (hna : a.length ≤ 1099511627776) :
    VSpec Try.prog F.roots_Sqrt c [nats t a] (fun r c' => RootO c c' (val 18446744073709551616 a) 2 r) :=
  VSpec.clean (sqrt_specS t a c ha hna) fun r c' hc h => rootO_of hc h
end Go.Proofs.Ytladcfeibpddeaa
set_option linter.unusedSimpArgs false
set_option linter.unusedVariables false
set_option maxRecDepth 100000
set_option maxHeartbeats 8000000
namespace Go.Proofs.Ytladcfeibpddeaa
open Go.VM

theorem b_eql {x y : Bool} : sbin .eql true (bv x) (bv y) = some (bv (x == y)) := rfl
theorem isRoot_two {A x : Nat} (h1 : x * x ≤ A) (h2 : A < (x + 1) * (x + 1)) : IsRoot A 2 x := ⟨by rw [Nat.pow_two]; exact h1, by rw [Nat.pow_two]; exact h2⟩

theorem root01_spec (t : Tok) (A0 c : Nat) (hA : bl A0 ≤ 67108864) :
    VSpec Try.prog F.surdref01_Root c [nats t (digs 4294967296 A0)] (fun r c' => ∃ tk x, r = nats tk (digs 4294967296 x) ∧ IsRoot A0 2 x) := by
  refine spec_mk hm E.surdref01_Root B.surdref01_Root K.surdref01_Root Q.surdref01_Root (by rw [N.surdref01_Root]; simp) ?_
  unfold C.surdref01_Root R.surdref01_Root
  (repeat (first | refine v_reg ?_ | refine v_last ?_ | refine vwp_seq ?_ | refine vwp_block ?_ | refine vwp_skip ?_ | refine vwp_exit ?_ | refine vwp_ret ?_ | refine v_cond ?_ | simp only [vm, ite_true, ite_false, eq_self, reduceIte, Nat.reduceEqDiff, Option.map] | refine And.intro (by omega) ?_))
  refine s_call (lenR t A0 c (by omega)) (by simp only [vm, ite_true, ite_false, eq_self, reduceIte, Nat.reduceEqDiff, Option.map, List.map]) ?_
  rintro v c1 hc1 rfl
  have eq1 : (bl A0 : Int) / 2 = ((bl A0 / 2 : Nat) : Int) := by omega
  (repeat (first | refine v_reg ?_ | refine v_last ?_ | refine vwp_seq ?_ | refine vwp_block ?_ | refine vwp_skip ?_ | refine vwp_exit ?_ | refine vwp_ret ?_ | refine v_cond ?_ | simp only [vm, ite_true, ite_false, eq_self, reduceIte, Nat.reduceEqDiff, Option.map, eq1] | refine And.intro (by omega) ?_))
  refine v_loop (fun S => ∃ tk x, S.ρ 3 = nats tk (digs 4294967296 x) ∧ IsRoot A0 2 x ∧ c ≤ S.c) ?_ ?_
  · refine vwp_loop (fun q S => ∃ i tk x, q = i ∧ i ≤ bl A0 / 2 + 1 ∧ S.ρ 0 = nats t (digs 4294967296 A0) ∧ S.ρ 3 = nats tk (digs 4294967296 x) ∧ S.ρ 4 = iv ((i : Int) - 1) ∧ x * x ≤ A0 ∧ A0 < (x + 2 ^ i) * (x + 2 ^ i) ∧ S.σ = noBlk ∧ c ≤ S.c) (bl A0 / 2 + 1) ?_ ?_
    · have e0 : ((bl A0 / 2 + 1 : Nat) : Int) - 1 = ((bl A0 / 2 : Nat) : Int) := by omega
      have h1 : A0 < 2 ^ (bl A0 / 2 + 1) * 2 ^ (bl A0 / 2 + 1) := by
        rw [← Nat.pow_add]
        exact Nat.lt_of_lt_of_le (lt_bl A0) (Nat.pow_le_pow_right (by decide) (by omega))
      refine ⟨bl A0 / 2 + 1, .nil, 0, rfl, Nat.le_refl _, ?_⟩
      rw [e0]
      simp only [vm, ite_true, ite_false, eq_self, reduceIte, Nat.reduceEqDiff, Option.map]
      (repeat' apply And.intro) <;> first | rfl | omega | assumption | exact h1
    rintro q ⟨ρ2, σ, c4⟩ ⟨i, tk, x, hq, hi, h0, h3, h4, hx1, hx2, hσ, hc4⟩
    dsimp only at h0 h3 h4 hσ hc4
    subst hσ
    rcases Nat.eq_zero_or_pos i with rfl | hip
    · have g2 : ¬ (0 : Int) ≤ ((0 : Nat) : Int) - 1 := by omega
      rw [Nat.pow_zero] at hx2
      (repeat (first | refine v_reg ?_ | refine v_last ?_ | refine vwp_seq ?_ | refine vwp_block ?_ | refine vwp_skip ?_ | refine vwp_exit ?_ | refine vwp_ret ?_ | refine v_cond ?_ | simp only [vm, ite_true, ite_false, eq_self, reduceIte, Nat.reduceEqDiff, Option.map, h3, h4, g2] | refine And.intro (by omega) ?_))
      exact ⟨tk, x, rfl, isRoot_two hx1 hx2, hc4⟩
    obtain ⟨j, rfl⟩ : ∃ j, i = j + 1 := ⟨i - 1, by omega⟩
    have e1 : (((j + 1 : Nat) : Int) - 1) = (j : Int) := by omega
    rw [e1] at h4
    have g2 : (0 : Int) ≤ (j : Int) := by omega
    have hxA : x ≤ A0 := Nat.le_trans (Nat.le_mul_self x) hx1
    have hbx : bl x ≤ 67108864 := Nat.le_trans (bl_mono hxA) hA
    have hb2 : bl (2 ^ j) ≤ 67108865 := Nat.le_trans (bl_le (k := j + 1) (Nat.pow_lt_pow_right (by decide) (by omega))) (by omega)
    have hbs := bl_add_le (m := x) (n := 2 ^ j) (k := 67108865) (by omega) hb2
    have hbm := bl_mul_le (x + 2 ^ j) (x + 2 ^ j)
    have hsum : x + 2 ^ j + 2 ^ j = x + 2 ^ (j + 1) := by rw [Nat.pow_succ]; omega
    (repeat (first | refine v_reg ?_ | refine v_last ?_ | refine vwp_seq ?_ | refine vwp_block ?_ | refine vwp_skip ?_ | refine vwp_exit ?_ | refine vwp_ret ?_ | refine v_cond ?_ | simp only [vm, ite_true, ite_false, eq_self, reduceIte, Nat.reduceEqDiff, Option.map, h0, h3, h4, g2] | refine And.intro (by omega) ?_))
    refine s_call (oneR c4) (by simp only [vm, ite_true, ite_false, eq_self, reduceIte, Nat.reduceEqDiff, Option.map, List.map]) ?_
    rintro v c5 hc5 ⟨j1, rfl, _, _⟩
    (repeat (first | refine v_reg ?_ | refine v_last ?_ | refine vwp_seq ?_ | refine vwp_block ?_ | refine vwp_skip ?_ | refine vwp_exit ?_ | refine vwp_ret ?_ | refine v_cond ?_ | simp only [vm, ite_true, ite_false, eq_self, reduceIte, Nat.reduceEqDiff, Option.map, h0, h3, h4] | refine And.intro (by omega) ?_))
    refine s_call (shlR (.id j1) 1 j c5 (by decide) (by decide) (by omega)) (by simp only [vm, ite_true, ite_false, eq_self, reduceIte, Nat.reduceEqDiff, Option.map, List.map, h4]) ?_
    rintro v c6 hc6 ⟨j2, rfl, _, _⟩
    rw [Nat.one_mul]
    (repeat (first | refine v_reg ?_ | refine v_last ?_ | refine vwp_seq ?_ | refine vwp_block ?_ | refine vwp_skip ?_ | refine vwp_exit ?_ | refine vwp_ret ?_ | refine v_cond ?_ | simp only [vm, ite_true, ite_false, eq_self, reduceIte, Nat.reduceEqDiff, Option.map, h0, h3, h4] | refine And.intro (by omega) ?_))
    refine s_call (addR tk (.id j2) x (2 ^ j) c6 (by omega) (by omega)) (by simp only [vm, ite_true, ite_false, eq_self, reduceIte, Nat.reduceEqDiff, Option.map, List.map, h3]) ?_
    rintro v c7 hc7 ⟨j3, rfl, _, _⟩
    (repeat (first | refine v_reg ?_ | refine v_last ?_ | refine vwp_seq ?_ | refine vwp_block ?_ | refine vwp_skip ?_ | refine vwp_exit ?_ | refine vwp_ret ?_ | refine v_cond ?_ | simp only [vm, ite_true, ite_false, eq_self, reduceIte, Nat.reduceEqDiff, Option.map, h0, h3, h4] | refine And.intro (by omega) ?_))
    refine s_call (mulR (.id j3) (.id j3) (x + 2 ^ j) (x + 2 ^ j) c7 (by omega) (by omega)) (by simp only [vm, ite_true, ite_false, eq_self, reduceIte, Nat.reduceEqDiff, Option.map, List.map]) ?_
    rintro v c8 hc8 ⟨j4, rfl, _, _⟩
    (repeat (first | refine v_reg ?_ | refine v_last ?_ | refine vwp_seq ?_ | refine vwp_block ?_ | refine vwp_skip ?_ | refine vwp_exit ?_ | refine vwp_ret ?_ | refine v_cond ?_ | simp only [vm, ite_true, ite_false, eq_self, reduceIte, Nat.reduceEqDiff, Option.map, h0, h3, h4] | refine And.intro (by omega) ?_))
    refine s_call (cmpR (.id j4) t ((x + 2 ^ j) * (x + 2 ^ j)) A0 c8 (by omega) (by omega)) (by simp only [vm, ite_true, ite_false, eq_self, reduceIte, Nat.reduceEqDiff, Option.map, List.map, h0]) ?_
    rintro v c9 hc9 rfl
    by_cases g : cmpI ((x + 2 ^ j) * (x + 2 ^ j)) A0 ≤ 0
    · have h := cmpI_le.1 g
      (repeat (first | refine v_reg ?_ | refine v_last ?_ | refine vwp_seq ?_ | refine vwp_block ?_ | refine vwp_skip ?_ | refine vwp_exit ?_ | refine vwp_ret ?_ | refine v_cond ?_ | simp only [vm, ite_true, ite_false, eq_self, reduceIte, Nat.reduceEqDiff, Option.map, h0, h3, h4, g] | refine And.intro (by omega) ?_))
      exact ⟨j, by omega, j, .id j3, x + 2 ^ j, rfl, by omega, rfl, rfl, h, by rw [hsum]; exact hx2, by omega⟩
    · have h : ¬ (x + 2 ^ j) * (x + 2 ^ j) ≤ A0 := fun h => g (cmpI_le.2 h)
      (repeat (first | refine v_reg ?_ | refine v_last ?_ | refine vwp_seq ?_ | refine vwp_block ?_ | refine vwp_skip ?_ | refine vwp_exit ?_ | refine vwp_ret ?_ | refine v_cond ?_ | simp only [vm, ite_true, ite_false, eq_self, reduceIte, Nat.reduceEqDiff, Option.map, h0, h3, h4, g] | refine And.intro (by omega) ?_))
      exact ⟨j, by omega, j, tk, x, rfl, by omega, rfl, rfl, hx1, by omega, by omega⟩
  rintro ⟨ρ3, σ3, c5⟩ ⟨tk, x, h3, hx, hc5⟩
  dsimp only at h3 hc5
  (repeat (first | refine v_reg ?_ | refine v_last ?_ | refine vwp_seq ?_ | refine vwp_block ?_ | refine vwp_skip ?_ | refine vwp_exit ?_ | refine vwp_ret ?_ | refine v_cond ?_ | simp only [vm, ite_true, ite_false, eq_self, reduceIte, Nat.reduceEqDiff, Option.map, h3] | refine And.intro (by omega) ?_))
  exact ⟨tk, x, rfl, hx⟩

theorem root2_facts {A x : Nat} (h : IsRoot A 2 x) (hA : bl A ≤ 67108864) : bl x ≤ 67108864 ∧ x * x = x ^ 2 ∧ bl (x * x) ≤ 67108864 ∧ x * x ≤ A := by
  have h1 := h.1
  rw [Nat.pow_two] at h1
  exact ⟨Nat.le_trans (bl_mono (Nat.le_trans (Nat.le_mul_self x) h1)) hA, (Nat.pow_two x).symm, Nat.le_trans (bl_mono h1) hA, h1⟩
/-- the least number whose square is at least this -/
def ceilN (A x : Nat) : Nat := if x * x < A then x + 1 else x

theorem ceil_spec (t : Tok) (a : List Nat) (c : Nat) (ha : Lim 18446744073709551616 a) (hna : a.length ≤ 1099511627776) (hb : bl (val 18446744073709551616 a) ≤ 67108864) :
    VSpec Try.prog F.roots_Ceil c [nats t a] (fun r c' => ∃ x t1, IsRoot (val 18446744073709551616 a) 2 x ∧ r = .tup [nats t1 (digs 18446744073709551616 (ceilN (val 18446744073709551616 a) x)), iv 0] ∧ Tk c c' t1) := by
  refine spec_mk hm E.roots_Ceil B.roots_Ceil K.roots_Ceil Q.roots_Ceil (by rw [N.roots_Ceil]; simp) ?_
  unfold C.roots_Ceil R.roots_Ceil
  (repeat (first | refine v_reg ?_ | refine v_last ?_ | refine vwp_seq ?_ | refine vwp_block ?_ | refine vwp_skip ?_ | refine vwp_exit ?_ | refine vwp_ret ?_ | refine v_cond ?_ | simp only [vm, ite_true, ite_false, eq_self, reduceIte, Nat.reduceEqDiff, Option.map] | refine And.intro (by omega) ?_))
  refine s_call (sqrt_spec t a c ha hna) (by simp only [vm, ite_true, ite_false, eq_self, reduceIte, Nat.reduceEqDiff, Option.map, List.map]) ?_
  rintro v c1 hc1 (⟨_, x, t1, t2, hx, rfl, ht1, ht2⟩ | ⟨hb2, _⟩)
  rotate_left
  · omega
  obtain ⟨f1, f2, f3, f4⟩ := root2_facts hx hb
  have hs := Nat.le_trans (bl_mono (Nat.sub_le (val 18446744073709551616 a) (x ^ 2))) hb
  have hln : (digs 18446744073709551616 (val 18446744073709551616 a - x ^ 2)).length ≤ 1048576 := digs_len_bl (by omega)
  have hlx : (digs 18446744073709551616 x).length ≤ 1048576 := digs_len_bl (by omega)
  (repeat (first | refine v_reg ?_ | refine v_last ?_ | refine vwp_seq ?_ | refine vwp_block ?_ | refine vwp_skip ?_ | refine vwp_exit ?_ | refine vwp_ret ?_ | refine v_cond ?_ | simp only [vm, ite_true, ite_false, eq_self, reduceIte, Nat.reduceEqDiff, Option.map] | refine And.intro (by omega) ?_))
  refine s_call (length_spec t2 (digs 18446744073709551616 (val 18446744073709551616 a - x ^ 2)) c1 (lim_digs two64 _) (by omega)) (by simp only [vm, ite_true, ite_false, eq_self, reduceIte, Nat.reduceEqDiff, Option.map, List.map]) ?_
  rw [val_digs two64]
  rintro v c2 hc2 rfl
  by_cases g : (bl (val 18446744073709551616 a - x ^ 2) : Int) = 0
  · have h2 : val 18446744073709551616 a - x ^ 2 = 0 := bl_eq_zero.1 (by omega)
    have hc : ceilN (val 18446744073709551616 a) x = x := if_neg (by omega)
    (repeat (first | refine v_reg ?_ | refine v_last ?_ | refine vwp_seq ?_ | refine vwp_block ?_ | refine vwp_skip ?_ | refine vwp_exit ?_ | refine vwp_ret ?_ | refine v_cond ?_ | simp only [vm, ite_true, ite_false, eq_self, reduceIte, Nat.reduceEqDiff, Option.map, g] | refine And.intro (by omega) ?_))
    exact ⟨x, t1, hx, by rw [hc], ht1.mono (by omega) (by omega)⟩
  · have h2 : ¬ val 18446744073709551616 a - x ^ 2 = 0 := fun h => g (by rw [h]; rfl)
    have hc : ceilN (val 18446744073709551616 a) x = x + 1 := if_pos (by omega)
    have hle : x + 1 ≤ val 18446744073709551616 a := Nat.lt_of_le_of_lt (Nat.le_mul_self x) (by omega)
    have hb1 : bl (x + 1) ≤ 67108864 := Nat.le_trans (bl_mono hle) hb
    (repeat (first | refine v_reg ?_ | refine v_last ?_ | refine vwp_seq ?_ | refine vwp_block ?_ | refine vwp_skip ?_ | refine vwp_exit ?_ | refine vwp_ret ?_ | refine v_cond ?_ | simp only [vm, ite_true, ite_false, eq_self, reduceIte, Nat.reduceEqDiff, Option.map, g] | refine And.intro (by omega) ?_))
    refine s_call (from_spec 1 c2 (by decide)) (by simp only [vm, ite_true, ite_false, eq_self, reduceIte, Nat.reduceEqDiff, Option.map, List.map]) ?_
    rintro v c3 hc3 ⟨t3, rfl, ht3⟩
    have l1 : (digs 18446744073709551616 1).length ≤ 1 := digs_len two64 (by decide)
    (repeat (first | refine v_reg ?_ | refine v_last ?_ | refine vwp_seq ?_ | refine vwp_block ?_ | refine vwp_skip ?_ | refine vwp_exit ?_ | refine vwp_ret ?_ | refine v_cond ?_ | simp only [vm, ite_true, ite_false, eq_self, reduceIte, Nat.reduceEqDiff, Option.map] | refine And.intro (by omega) ?_))
    refine s_call (add_spec t1 t3 (digs 18446744073709551616 x) (digs 18446744073709551616 1) c3 (lim_digs two64 _) (lim_digs two64 _) (by omega) (by omega)) (by simp only [vm, ite_true, ite_false, eq_self, reduceIte, Nat.reduceEqDiff, Option.map, List.map]) ?_
    rw [val_digs two64, val_digs two64]
    rintro v c4 hc4 (⟨_, t4, rfl, ht4⟩ | ⟨hb4, _⟩)
    · (repeat (first | refine v_reg ?_ | refine v_last ?_ | refine vwp_seq ?_ | refine vwp_block ?_ | refine vwp_skip ?_ | refine vwp_exit ?_ | refine vwp_ret ?_ | refine v_cond ?_ | simp only [vm, ite_true, ite_false, eq_self, reduceIte, Nat.reduceEqDiff, Option.map] | refine And.intro (by omega) ?_))
      exact ⟨x, t4, hx, by rw [hc], ht4.mono (by omega) (by omega)⟩
    · omega

theorem isSquare_spec (t : Tok) (a : List Nat) (c : Nat) (ha : Lim 18446744073709551616 a) (hna : a.length ≤ 1099511627776) (hb : bl (val 18446744073709551616 a) ≤ 67108864) :
    VSpec Try.prog F.roots_IsSquare c [nats t a] (fun r c' => ∃ x, IsRoot (val 18446744073709551616 a) 2 x ∧ r = .tup [bv (decide (val 18446744073709551616 a - x ^ 2 = 0)), iv 0]) := by
  refine spec_mk hm E.roots_IsSquare B.roots_IsSquare K.roots_IsSquare Q.roots_IsSquare (by rw [N.roots_IsSquare]; simp) ?_
  unfold C.roots_IsSquare R.roots_IsSquare
  (repeat (first | refine v_reg ?_ | refine v_last ?_ | refine vwp_seq ?_ | refine vwp_block ?_ | refine vwp_skip ?_ | refine vwp_exit ?_ | refine vwp_ret ?_ | refine v_cond ?_ | simp only [vm, ite_true, ite_false, eq_self, reduceIte, Nat.reduceEqDiff, Option.map] | refine And.intro (by omega) ?_))
  refine s_call (sqrt_spec t a c ha hna) (by simp only [vm, ite_true, ite_false, eq_self, reduceIte, Nat.reduceEqDiff, Option.map, List.map]) ?_
  rintro v c1 hc1 (⟨_, x, t1, t2, hx, rfl, ht1, ht2⟩ | ⟨hb2, _⟩)
  rotate_left
  · omega
  have hs := Nat.le_trans (bl_mono (Nat.sub_le (val 18446744073709551616 a) (x ^ 2))) hb
  have hln : (digs 18446744073709551616 (val 18446744073709551616 a - x ^ 2)).length ≤ 1048576 := digs_len_bl (by omega)
  (repeat (first | refine v_reg ?_ | refine v_last ?_ | refine vwp_seq ?_ | refine vwp_block ?_ | refine vwp_skip ?_ | refine vwp_exit ?_ | refine vwp_ret ?_ | refine v_cond ?_ | simp only [vm, ite_true, ite_false, eq_self, reduceIte, Nat.reduceEqDiff, Option.map] | refine And.intro (by omega) ?_))
  refine s_call (length_spec t2 (digs 18446744073709551616 (val 18446744073709551616 a - x ^ 2)) c1 (lim_digs two64 _) (by omega)) (by simp only [vm, ite_true, ite_false, eq_self, reduceIte, Nat.reduceEqDiff, Option.map, List.map]) ?_
  rw [val_digs two64]
  rintro v c2 hc2 rfl
  by_cases g : (bl (val 18446744073709551616 a - x ^ 2) : Int) = 0
  · have h2 : val 18446744073709551616 a - x ^ 2 = 0 := bl_eq_zero.1 (by omega)
    (repeat (first | refine v_reg ?_ | refine v_last ?_ | refine vwp_seq ?_ | refine vwp_block ?_ | refine vwp_skip ?_ | refine vwp_exit ?_ | refine vwp_ret ?_ | refine v_cond ?_ | simp only [vm, ite_true, ite_false, eq_self, reduceIte, Nat.reduceEqDiff, Option.map, g] | refine And.intro (by omega) ?_))
    exact ⟨x, hx, by rw [decide_eq_true h2]⟩
  · have h2 : ¬ val 18446744073709551616 a - x ^ 2 = 0 := fun h => g (by rw [h]; rfl)
    (repeat (first | refine v_reg ?_ | refine v_last ?_ | refine vwp_seq ?_ | refine vwp_block ?_ | refine vwp_skip ?_ | refine vwp_exit ?_ | refine vwp_ret ?_ | refine v_cond ?_ | simp only [vm, ite_true, ite_false, eq_self, reduceIte, Nat.reduceEqDiff, Option.map, g] | refine And.intro (by omega) ?_))
    exact ⟨x, hx, by rw [decide_eq_false h2]⟩
theorem ceil_own {c c' : Nat} {r : V} {A0 : Nat} (hc : c ≤ c') (h : ∃ x t1, IsRoot A0 2 x ∧ r = .tup [nats t1 (digs 18446744073709551616 (ceilN A0 x)), iv 0] ∧ Tk c c' t1) :
    (∃ x t1, IsRoot A0 2 x ∧ r = .tup [nats t1 (digs 18446744073709551616 (ceilN A0 x)), iv 0] ∧ Row1 c c' t1 (digs 18446744073709551616 (ceilN A0 x))) ∨ (Void r ∧ ∃ (r2 : V) (c2 : Nat), c ≤ c2 ∧ ∃ x t1, IsRoot A0 2 x ∧ r2 = .tup [nats t1 (digs 18446744073709551616 (ceilN A0 x)), iv 0] ∧ Row1 c c2 t1 (digs 18446744073709551616 (ceilN A0 x))) := by
  obtain ⟨x, t1, hx, rfl, h1⟩ := h
  rcases tk_nil_or (digs 18446744073709551616 (ceilN A0 x)) h1 with g | ⟨rfl, g⟩
  · exact .inl ⟨x, t1, hx, rfl, g⟩
  · exact .inr ⟨void_tup (by simp) g, _, c + 1, by omega, x, .id c, hx, rfl, .inr ⟨c, rfl, by omega, by omega⟩⟩
theorem apt_row {a b c d : Nat} {t u : Tok} {l m : List Nat} (h : Row1 a b t l) (h' : Row1 c d u m) (hbc : b ≤ c) : Apt t u := fun i e e' => by
  rcases h with ⟨rfl, _⟩ | ⟨j, rfl, _, h2⟩
  · cases e
  · rcases h' with ⟨rfl, _⟩ | ⟨k, rfl, h3, _⟩
    · cases e'
    · cases e; cases e'; omega

end Go.Proofs.Ytladcfeibpddeaa
set_option linter.unusedSimpArgs false
set_option linter.unusedVariables false
set_option maxRecDepth 100000
set_option maxHeartbeats 8000000
namespace Go.Proofs.Ytladcfeibpddeaa
open Go.VM

theorem sqrt04_spec (t : Tok) (A0 c : Nat) (hA : bl A0 ≤ 67108864) :
    VSpec Try.prog F.surdref04_Sqrt c [nats t (digs 4294967296 A0)] (fun r c' => ∃ x t1 t2, IsRoot A0 2 x ∧ r = .tup [nats t1 (digs 4294967296 x), nats t2 (digs 4294967296 (A0 - x ^ 2)), iv 0]) := by
  refine spec_mk hm E.surdref04_Sqrt B.surdref04_Sqrt K.surdref04_Sqrt Q.surdref04_Sqrt (by rw [N.surdref04_Sqrt]; simp) ?_
  unfold C.surdref04_Sqrt R.surdref04_Sqrt
  (repeat (first | refine v_reg ?_ | refine v_last ?_ | refine vwp_seq ?_ | refine vwp_block ?_ | refine vwp_skip ?_ | refine vwp_exit ?_ | refine vwp_ret ?_ | refine v_cond ?_ | simp only [vm, ite_true, ite_false, eq_self, reduceIte, Nat.reduceEqDiff, Option.map] | refine And.intro (by omega) ?_))
  refine s_call (root01_spec t A0 c hA) (by simp only [vm, ite_true, ite_false, eq_self, reduceIte, Nat.reduceEqDiff, Option.map, List.map]) ?_
  rintro v c1 hc1 ⟨tk, x, rfl, hx⟩
  obtain ⟨f1, f2, f3, f4⟩ := root2_facts hx hA
  (repeat (first | refine v_reg ?_ | refine v_last ?_ | refine vwp_seq ?_ | refine vwp_block ?_ | refine vwp_skip ?_ | refine vwp_exit ?_ | refine vwp_ret ?_ | refine v_cond ?_ | simp only [vm, ite_true, ite_false, eq_self, reduceIte, Nat.reduceEqDiff, Option.map] | refine And.intro (by omega) ?_))
  refine s_call (mulR tk tk x x c1 (by omega) (by omega)) (by simp only [vm, ite_true, ite_false, eq_self, reduceIte, Nat.reduceEqDiff, Option.map, List.map]) ?_
  rintro v c2 hc2 ⟨j2, rfl, _, _⟩
  (repeat (first | refine v_reg ?_ | refine v_last ?_ | refine vwp_seq ?_ | refine vwp_block ?_ | refine vwp_skip ?_ | refine vwp_exit ?_ | refine vwp_ret ?_ | refine v_cond ?_ | simp only [vm, ite_true, ite_false, eq_self, reduceIte, Nat.reduceEqDiff, Option.map] | refine And.intro (by omega) ?_))
  refine s_call (subR t (.id j2) A0 (x * x) c2 (by omega) f4) (by simp only [vm, ite_true, ite_false, eq_self, reduceIte, Nat.reduceEqDiff, Option.map, List.map]) ?_
  rintro v c3 hc3 ⟨j3, rfl, _, _⟩
  (repeat (first | refine v_reg ?_ | refine v_last ?_ | refine vwp_seq ?_ | refine vwp_block ?_ | refine vwp_skip ?_ | refine vwp_exit ?_ | refine vwp_ret ?_ | refine v_cond ?_ | simp only [vm, ite_true, ite_false, eq_self, reduceIte, Nat.reduceEqDiff, Option.map] | refine And.intro (by omega) ?_))
  refine s_call (told04_spec tk (.id j3) x (A0 - x * x) c3 f1 (Nat.le_trans (bl_mono (Nat.sub_le _ _)) hA)) (by simp only [vm, ite_true, ite_false, eq_self, reduceIte, Nat.reduceEqDiff, Option.map, List.map]) ?_
  rintro v c4 hc4 rfl
  (repeat (first | refine v_reg ?_ | refine v_last ?_ | refine vwp_seq ?_ | refine vwp_block ?_ | refine vwp_skip ?_ | refine vwp_exit ?_ | refine vwp_ret ?_ | refine v_cond ?_ | simp only [vm, ite_true, ite_false, eq_self, reduceIte, Nat.reduceEqDiff, Option.map] | refine And.intro (by omega) ?_))
  exact ⟨x, tk, .id j3, hx, by rw [f2]⟩

theorem ceil04_spec (t : Tok) (A0 c : Nat) (hA : bl A0 ≤ 67108864) :
    VSpec Try.prog F.surdref04_Ceil c [nats t (digs 4294967296 A0)] (fun r c' => ∃ x t1, IsRoot A0 2 x ∧ bl (ceilN A0 x) ≤ 67108864 ∧ r = .tup [nats t1 (digs 4294967296 (ceilN A0 x)), iv 0]) := by
  refine spec_mk hm E.surdref04_Ceil B.surdref04_Ceil K.surdref04_Ceil Q.surdref04_Ceil (by rw [N.surdref04_Ceil]; simp) ?_
  unfold C.surdref04_Ceil R.surdref04_Ceil
  (repeat (first | refine v_reg ?_ | refine v_last ?_ | refine vwp_seq ?_ | refine vwp_block ?_ | refine vwp_skip ?_ | refine vwp_exit ?_ | refine vwp_ret ?_ | refine v_cond ?_ | simp only [vm, ite_true, ite_false, eq_self, reduceIte, Nat.reduceEqDiff, Option.map] | refine And.intro (by omega) ?_))
  refine s_call (root01_spec t A0 c hA) (by simp only [vm, ite_true, ite_false, eq_self, reduceIte, Nat.reduceEqDiff, Option.map, List.map]) ?_
  rintro v c1 hc1 ⟨tk, x, rfl, hx⟩
  obtain ⟨f1, f2, f3, f4⟩ := root2_facts hx hA
  (repeat (first | refine v_reg ?_ | refine v_last ?_ | refine vwp_seq ?_ | refine vwp_block ?_ | refine vwp_skip ?_ | refine vwp_exit ?_ | refine vwp_ret ?_ | refine v_cond ?_ | simp only [vm, ite_true, ite_false, eq_self, reduceIte, Nat.reduceEqDiff, Option.map] | refine And.intro (by omega) ?_))
  refine s_call (mulR tk tk x x c1 (by omega) (by omega)) (by simp only [vm, ite_true, ite_false, eq_self, reduceIte, Nat.reduceEqDiff, Option.map, List.map]) ?_
  rintro v c2 hc2 ⟨j2, rfl, _, _⟩
  (repeat (first | refine v_reg ?_ | refine v_last ?_ | refine vwp_seq ?_ | refine vwp_block ?_ | refine vwp_skip ?_ | refine vwp_exit ?_ | refine vwp_ret ?_ | refine v_cond ?_ | simp only [vm, ite_true, ite_false, eq_self, reduceIte, Nat.reduceEqDiff, Option.map] | refine And.intro (by omega) ?_))
  refine s_call (cmpR (.id j2) t (x * x) A0 c2 (by omega) (by omega)) (by simp only [vm, ite_true, ite_false, eq_self, reduceIte, Nat.reduceEqDiff, Option.map, List.map]) ?_
  rintro v c3 hc3 rfl
  have h0 : bl 0 ≤ 67108864 := by decide
  by_cases g : cmpI (x * x) A0 < 0
  · have h := cmpI_lt.1 g
    have hle : x + 1 ≤ A0 := Nat.lt_of_le_of_lt (Nat.le_mul_self x) h
    have hc : ceilN A0 x = x + 1 := if_pos h
    have hb1 : bl (x + 1) ≤ 67108864 := Nat.le_trans (bl_mono hle) hA
    have hone : bl 1 ≤ 68719476736 := by decide
    (repeat (first | refine v_reg ?_ | refine v_last ?_ | refine vwp_seq ?_ | refine vwp_block ?_ | refine vwp_skip ?_ | refine vwp_exit ?_ | refine vwp_ret ?_ | refine v_cond ?_ | simp only [vm, ite_true, ite_false, eq_self, reduceIte, Nat.reduceEqDiff, Option.map, g] | refine And.intro (by omega) ?_))
    refine s_call (oneR c3) (by simp only [vm, ite_true, ite_false, eq_self, reduceIte, Nat.reduceEqDiff, Option.map, List.map]) ?_
    rintro v c4 hc4 ⟨j4, rfl, _, _⟩
    (repeat (first | refine v_reg ?_ | refine v_last ?_ | refine vwp_seq ?_ | refine vwp_block ?_ | refine vwp_skip ?_ | refine vwp_exit ?_ | refine vwp_ret ?_ | refine v_cond ?_ | simp only [vm, ite_true, ite_false, eq_self, reduceIte, Nat.reduceEqDiff, Option.map] | refine And.intro (by omega) ?_))
    refine s_call (addR tk (.id j4) x 1 c4 (by omega) hone) (by simp only [vm, ite_true, ite_false, eq_self, reduceIte, Nat.reduceEqDiff, Option.map, List.map]) ?_
    rintro v c5 hc5 ⟨j5, rfl, _, _⟩
    (repeat (first | refine v_reg ?_ | refine v_last ?_ | refine vwp_seq ?_ | refine vwp_block ?_ | refine vwp_skip ?_ | refine vwp_exit ?_ | refine vwp_ret ?_ | refine v_cond ?_ | simp only [vm, ite_true, ite_false, eq_self, reduceIte, Nat.reduceEqDiff, Option.map] | refine And.intro (by omega) ?_))
    refine s_call (told04_spec (.id j5) .nil (x + 1) 0 c5 hb1 h0) (by simp only [vm, ite_true, ite_false, eq_self, reduceIte, Nat.reduceEqDiff, Option.map, List.map]; rfl) ?_
    rintro v c6 hc6 rfl
    (repeat (first | refine v_reg ?_ | refine v_last ?_ | refine vwp_seq ?_ | refine vwp_block ?_ | refine vwp_skip ?_ | refine vwp_exit ?_ | refine vwp_ret ?_ | refine v_cond ?_ | simp only [vm, ite_true, ite_false, eq_self, reduceIte, Nat.reduceEqDiff, Option.map] | refine And.intro (by omega) ?_))
    exact ⟨x, .id j5, hx, by rw [hc]; exact hb1, by rw [hc]⟩
  · have h : ¬ x * x < A0 := fun h => g (cmpI_lt.2 h)
    have hc : ceilN A0 x = x := if_neg h
    (repeat (first | refine v_reg ?_ | refine v_last ?_ | refine vwp_seq ?_ | refine vwp_block ?_ | refine vwp_skip ?_ | refine vwp_exit ?_ | refine vwp_ret ?_ | refine v_cond ?_ | simp only [vm, ite_true, ite_false, eq_self, reduceIte, Nat.reduceEqDiff, Option.map, g] | refine And.intro (by omega) ?_))
    refine s_call (told04_spec tk .nil x 0 c3 f1 h0) (by simp only [vm, ite_true, ite_false, eq_self, reduceIte, Nat.reduceEqDiff, Option.map, List.map]; rfl) ?_
    rintro v c6 hc6 rfl
    (repeat (first | refine v_reg ?_ | refine v_last ?_ | refine vwp_seq ?_ | refine vwp_block ?_ | refine vwp_skip ?_ | refine vwp_exit ?_ | refine vwp_ret ?_ | refine v_cond ?_ | simp only [vm, ite_true, ite_false, eq_self, reduceIte, Nat.reduceEqDiff, Option.map] | refine And.intro (by omega) ?_))
    exact ⟨x, tk, hx, by rw [hc]; exact f1, by rw [hc]⟩

theorem isSquare04_spec (t : Tok) (A0 c : Nat) (hA : bl A0 ≤ 67108864) :
    VSpec Try.prog F.surdref04_IsSquare c [nats t (digs 4294967296 A0)] (fun r c' => ∃ x, IsRoot A0 2 x ∧ r = bv (decide (A0 - x ^ 2 = 0))) := by
  refine spec_mk hm E.surdref04_IsSquare B.surdref04_IsSquare K.surdref04_IsSquare Q.surdref04_IsSquare (by rw [N.surdref04_IsSquare]; simp) ?_
  unfold C.surdref04_IsSquare R.surdref04_IsSquare
  (repeat (first | refine v_reg ?_ | refine v_last ?_ | refine vwp_seq ?_ | refine vwp_block ?_ | refine vwp_skip ?_ | refine vwp_exit ?_ | refine vwp_ret ?_ | refine v_cond ?_ | simp only [vm, ite_true, ite_false, eq_self, reduceIte, Nat.reduceEqDiff, Option.map] | refine And.intro (by omega) ?_))
  refine s_call (root01_spec t A0 c hA) (by simp only [vm, ite_true, ite_false, eq_self, reduceIte, Nat.reduceEqDiff, Option.map, List.map]) ?_
  rintro v c1 hc1 ⟨tk, x, rfl, hx⟩
  obtain ⟨f1, f2, f3, f4⟩ := root2_facts hx hA
  (repeat (first | refine v_reg ?_ | refine v_last ?_ | refine vwp_seq ?_ | refine vwp_block ?_ | refine vwp_skip ?_ | refine vwp_exit ?_ | refine vwp_ret ?_ | refine v_cond ?_ | simp only [vm, ite_true, ite_false, eq_self, reduceIte, Nat.reduceEqDiff, Option.map] | refine And.intro (by omega) ?_))
  refine s_call (mulR tk tk x x c1 (by omega) (by omega)) (by simp only [vm, ite_true, ite_false, eq_self, reduceIte, Nat.reduceEqDiff, Option.map, List.map]) ?_
  rintro v c2 hc2 ⟨j2, rfl, _, _⟩
  (repeat (first | refine v_reg ?_ | refine v_last ?_ | refine vwp_seq ?_ | refine vwp_block ?_ | refine vwp_skip ?_ | refine vwp_exit ?_ | refine vwp_ret ?_ | refine v_cond ?_ | simp only [vm, ite_true, ite_false, eq_self, reduceIte, Nat.reduceEqDiff, Option.map] | refine And.intro (by omega) ?_))
  refine s_call (cmpR (.id j2) t (x * x) A0 c2 (by omega) (by omega)) (by simp only [vm, ite_true, ite_false, eq_self, reduceIte, Nat.reduceEqDiff, Option.map, List.map]) ?_
  rintro v c3 hc3 rfl
  by_cases g : cmpI (x * x) A0 = 0
  · have h := cmpI_zero.1 g
    have h2 : A0 - x ^ 2 = 0 := by omega
    (repeat (first | refine v_reg ?_ | refine v_last ?_ | refine vwp_seq ?_ | refine vwp_block ?_ | refine vwp_skip ?_ | refine vwp_exit ?_ | refine vwp_ret ?_ | refine v_cond ?_ | simp only [vm, ite_true, ite_false, eq_self, reduceIte, Nat.reduceEqDiff, Option.map, g] | refine And.intro (by omega) ?_))
    exact ⟨x, hx, by rw [decide_eq_true h2]⟩
  · have h : ¬ x * x = A0 := fun h => g (cmpI_zero.2 h)
    have h2 : ¬ A0 - x ^ 2 = 0 := by omega
    (repeat (first | refine v_reg ?_ | refine v_last ?_ | refine vwp_seq ?_ | refine vwp_block ?_ | refine vwp_skip ?_ | refine vwp_exit ?_ | refine vwp_ret ?_ | refine v_cond ?_ | simp only [vm, ite_true, ite_false, eq_self, reduceIte, Nat.reduceEqDiff, Option.map, g] | refine And.intro (by omega) ?_))
    exact ⟨x, hx, by rw [decide_eq_false h2]⟩

end Go.Proofs.Ytladcfeibpddeaa
set_option linter.unusedSimpArgs false
set_option linter.unusedVariables false
set_option maxRecDepth 100000
set_option maxHeartbeats 8000000
namespace Go.Proofs.Ytladcfeibpddeaa
open Go.VM

theorem squares_law (t : Tok) (a : List Nat) (c : Nat) (ht : Kn c t) (ha : Lim 18446744073709551616 a) (hna : a.length ≤ 1048576) :
    VSpec Try.prog F.surdlaw04_RootSquares c [nats t a] (fun r _ => r = bv true) := by
  refine spec_mk hm E.surdlaw04_RootSquares B.surdlaw04_RootSquares K.surdlaw04_RootSquares Q.surdlaw04_RootSquares (by rw [N.surdlaw04_RootSquares]; simp) ?_
  unfold C.surdlaw04_RootSquares R.surdlaw04_RootSquares
  (repeat (first | refine v_reg ?_ | refine v_last ?_ | refine vwp_seq ?_ | refine vwp_block ?_ | refine vwp_skip ?_ | refine vwp_exit ?_ | refine vwp_ret ?_ | refine v_cond ?_ | simp only [vm, ite_true, ite_false, eq_self, reduceIte, Nat.reduceEqDiff, Option.map] | refine And.intro (by omega) ?_))
  refine s_call (lend_spec t a c ha (by omega)) (by simp only [vm, ite_true, ite_false, eq_self, reduceIte, Nat.reduceEqDiff, Option.map, List.map]) ?_
  rintro v c1 hc1 ⟨iw, rfl, hiw, hiw2⟩
  (repeat (first | refine v_reg ?_ | refine v_last ?_ | refine vwp_seq ?_ | refine vwp_block ?_ | refine vwp_skip ?_ | refine vwp_exit ?_ | refine vwp_ret ?_ | refine v_cond ?_ | simp only [vm, ite_true, ite_false, eq_self, reduceIte, Nat.reduceEqDiff, Option.map] | refine And.intro (by omega) ?_))
  refine s_call (of_spec t a c1 ha (by omega)) (by simp only [vm, ite_true, ite_false, eq_self, reduceIte, Nat.reduceEqDiff, Option.map, List.map]) ?_
  rintro v c2 hc2 ⟨i2, rfl, _, _⟩
  obtain ⟨A0, hA0⟩ : ∃ A0, A0 = val 18446744073709551616 a := ⟨_, rfl⟩
  have hbA : bl A0 ≤ 67108864 := by
    have h1 := val_lt ha
    rw [pow64, ← hA0] at h1
    exact Nat.le_trans (bl_le h1) (by omega)
  have hbv : bl (val 18446744073709551616 a) ≤ 67108864 := hA0 ▸ hbA
  rw [← hA0]
  (repeat (first | refine v_reg ?_ | refine v_last ?_ | refine vwp_seq ?_ | refine vwp_block ?_ | refine vwp_skip ?_ | refine vwp_exit ?_ | refine vwp_ret ?_ | refine v_cond ?_ | simp only [vm, ite_true, ite_false, eq_self, reduceIte, Nat.reduceEqDiff, Option.map] | refine And.intro (by omega) ?_))
  refine s_call (sqrt04_spec (.id i2) A0 c2 hbA) (by simp only [vm, ite_true, ite_false, eq_self, reduceIte, Nat.reduceEqDiff, Option.map, List.map]) ?_
  rintro v c3 hc3 ⟨x, t1, t2, hx, rfl⟩
  (repeat (first | refine v_reg ?_ | refine v_last ?_ | refine vwp_seq ?_ | refine vwp_block ?_ | refine vwp_skip ?_ | refine vwp_exit ?_ | refine vwp_ret ?_ | refine v_cond ?_ | simp only [vm, ite_true, ite_false, eq_self, reduceIte, Nat.reduceEqDiff, Option.map] | refine And.intro (by omega) ?_))
  refine s_call (ceil04_spec (.id i2) A0 c3 hbA) (by simp only [vm, ite_true, ite_false, eq_self, reduceIte, Nat.reduceEqDiff, Option.map, List.map]) ?_
  rintro v c4 hc4 ⟨x2, t3, hx2, hcb, rfl⟩
  obtain rfl := root_unique hx hx2
  (repeat (first | refine v_reg ?_ | refine v_last ?_ | refine vwp_seq ?_ | refine vwp_block ?_ | refine vwp_skip ?_ | refine vwp_exit ?_ | refine vwp_ret ?_ | refine v_cond ?_ | simp only [vm, ite_true, ite_false, eq_self, reduceIte, Nat.reduceEqDiff, Option.map] | refine And.intro (by omega) ?_))
  refine s_call (sqrt_specO (.sub iw) a c4 ha (by omega)) (by simp only [vm, ite_true, ite_false, eq_self, reduceIte, Nat.reduceEqDiff, Option.map, List.map]) ?_
  rw [← hA0]
  rintro v c5 hc5 (⟨_, y, t4, t5, hy, rfl, h4, h5, h45⟩ | ⟨hb, _⟩)
  rotate_left
  · omega
  obtain rfl := root_unique hx hy
  (repeat (first | refine v_reg ?_ | refine v_last ?_ | refine vwp_seq ?_ | refine vwp_block ?_ | refine vwp_skip ?_ | refine vwp_exit ?_ | refine vwp_ret ?_ | refine v_cond ?_ | simp only [vm, ite_true, ite_false, eq_self, reduceIte, Nat.reduceEqDiff, Option.map] | refine And.intro (by omega) ?_))
  refine s_call (VSpec.clean (ceil_spec (.sub iw) a c5 ha (by omega) hbv) fun r c' hc h => ceil_own hc h) (by simp only [vm, ite_true, ite_false, eq_self, reduceIte, Nat.reduceEqDiff, Option.map, List.map]) ?_
  rw [← hA0]
  rintro v c6 hc6 ⟨y, t6, hy, rfl, h6⟩
  obtain rfl := root_unique hx hy
  (repeat (first | refine v_reg ?_ | refine v_last ?_ | refine vwp_seq ?_ | refine vwp_block ?_ | refine vwp_skip ?_ | refine vwp_exit ?_ | refine vwp_ret ?_ | refine v_cond ?_ | simp only [vm, ite_true, ite_false, eq_self, reduceIte, Nat.reduceEqDiff, Option.map] | refine And.intro (by omega) ?_))
  refine s_call (isSquare_spec (.sub iw) a c6 ha (by omega) hbv) (by simp only [vm, ite_true, ite_false, eq_self, reduceIte, Nat.reduceEqDiff, Option.map, List.map]) ?_
  rw [← hA0]
  rintro v c7 hc7 ⟨y, hy, rfl⟩
  obtain rfl := root_unique hx hy
  have hxA : x ≤ A0 := Nat.le_trans (Nat.le_self_pow (by omega) x) hx.1
  have hbx : bl x ≤ 67108864 := Nat.le_trans (bl_mono hxA) hbA
  have hbs : bl (A0 - x ^ 2) ≤ 67108864 := Nat.le_trans (bl_mono (Nat.sub_le _ _)) hbA
  (repeat (first | refine v_reg ?_ | refine v_last ?_ | refine vwp_seq ?_ | refine vwp_block ?_ | refine vwp_skip ?_ | refine vwp_exit ?_ | refine vwp_ret ?_ | refine v_cond ?_ | simp only [vm, ite_true, ite_false, eq_self, reduceIte, Nat.reduceEqDiff, Option.map] | refine And.intro (by omega) ?_))
  refine s_call (alike_ok t4 t1 x c7 hbx) (by simp only [vm, ite_true, ite_false, eq_self, reduceIte, Nat.reduceEqDiff, Option.map, List.map]) ?_
  rintro v c8 hc8 rfl
  (repeat (first | refine v_reg ?_ | refine v_last ?_ | refine vwp_seq ?_ | refine vwp_block ?_ | refine vwp_skip ?_ | refine vwp_exit ?_ | refine vwp_ret ?_ | refine v_cond ?_ | simp only [vm, ite_true, ite_false, eq_self, reduceIte, Nat.reduceEqDiff, Option.map] | refine And.intro (by omega) ?_))
  refine s_call (alike_ok t5 t2 (A0 - x ^ 2) c8 hbs) (by simp only [vm, ite_true, ite_false, eq_self, reduceIte, Nat.reduceEqDiff, Option.map, List.map]) ?_
  rintro v c9 hc9 rfl
  (repeat (first | refine v_reg ?_ | refine v_last ?_ | refine vwp_seq ?_ | refine vwp_block ?_ | refine vwp_skip ?_ | refine vwp_exit ?_ | refine vwp_ret ?_ | refine v_cond ?_ | simp only [vm, ite_true, ite_false, eq_self, reduceIte, Nat.reduceEqDiff, Option.map] | refine And.intro (by omega) ?_))
  refine s_call (alike_ok t6 t3 (ceilN A0 x) c9 hcb) (by simp only [vm, ite_true, ite_false, eq_self, reduceIte, Nat.reduceEqDiff, Option.map, List.map]) ?_
  rintro v c10 hc10 rfl
  (repeat (first | refine v_reg ?_ | refine v_last ?_ | refine vwp_seq ?_ | refine vwp_block ?_ | refine vwp_skip ?_ | refine vwp_exit ?_ | refine vwp_ret ?_ | refine v_cond ?_ | simp only [vm, ite_true, ite_false, eq_self, reduceIte, Nat.reduceEqDiff, Option.map] | refine And.intro (by omega) ?_))
  refine s_call (num_spec 0 c10) (by simp only [vm, ite_true, ite_false, eq_self, reduceIte, Nat.reduceEqDiff, Option.map, List.map]) ?_
  rintro v c11 hc11 rfl
  (repeat (first | refine v_reg ?_ | refine v_last ?_ | refine vwp_seq ?_ | refine vwp_block ?_ | refine vwp_skip ?_ | refine vwp_exit ?_ | refine vwp_ret ?_ | refine v_cond ?_ | simp only [vm, ite_true, ite_false, eq_self, reduceIte, Nat.reduceEqDiff, Option.map] | refine And.intro (by omega) ?_))
  refine s_call (isSquare04_spec (.id i2) A0 c11 hbA) (by simp only [vm, ite_true, ite_false, eq_self, reduceIte, Nat.reduceEqDiff, Option.map, List.map]) ?_
  rintro v c12 hc12 ⟨y, hy, rfl⟩
  obtain rfl := root_unique hx hy
  have hself : (decide (A0 - x ^ 2 = 0) == decide (A0 - x ^ 2 = 0)) = true := by simp
  (repeat (first | refine v_reg ?_ | refine v_last ?_ | refine vwp_seq ?_ | refine vwp_block ?_ | refine vwp_skip ?_ | refine vwp_exit ?_ | refine vwp_ret ?_ | refine v_cond ?_ | simp only [vm, ite_true, ite_false, eq_self, reduceIte, Nat.reduceEqDiff, Option.map, b_eql, hself] | refine And.intro (by omega) ?_))
  have l1 : (digs 18446744073709551616 x).length ≤ 4398046511104 := Nat.le_trans (digs_len_bl (k := 1048576) (by omega)) (by decide)
  have l2 : (digs 18446744073709551616 (A0 - x ^ 2)).length ≤ 4398046511104 := Nat.le_trans (digs_len_bl (k := 1048576) (by omega)) (by decide)
  have l3 : (digs 18446744073709551616 (ceilN A0 x)).length ≤ 4398046511104 := Nat.le_trans (digs_len_bl (k := 1048576) (by omega)) (by decide)
  have hp : ∀ p ∈ [(t4, digs 18446744073709551616 x), (t5, digs 18446744073709551616 (A0 - x ^ 2)), (t6, digs 18446744073709551616 (ceilN A0 x))], Row1 c4 c12 p.1 p.2 ∧ p.2.length ≤ 4398046511104 := fun p hp => by
    simp only [List.mem_cons, List.not_mem_nil, or_false] at hp
    rcases hp with rfl | rfl | rfl
    · exact ⟨h4.mono (by omega) (by omega), l1⟩
    · exact ⟨h5.mono (by omega) (by omega), l2⟩
    · exact ⟨h6.mono (by omega) (by omega), l3⟩
  have kw : Kn c4 (.id iw) := .inr ⟨iw, .inl rfl, by omega⟩
  have kt : Kn c4 t := ht.mono (by omega)
  have h46 := apt_row h4 h6 (Nat.le_refl _)
  have h56 := apt_row h5 h6 (Nat.le_refl _)
  refine s_rows3 (p := (t4, digs 18446744073709551616 x)) (q := (t5, digs 18446744073709551616 (A0 - x ^ 2))) (s := (t6, digs 18446744073709551616 (ceilN A0 x))) (by simp only [vm, ite_true, ite_false, eq_self, reduceIte, Nat.reduceEqDiff, Option.map]) (by simp only [vm, ite_true, ite_false, eq_self, reduceIte, Nat.reduceEqDiff, Option.map]) (by simp only [vm, ite_true, ite_false, eq_self, reduceIte, Nat.reduceEqDiff, Option.map]) ?_
  simp only [vm, ite_true, ite_false, eq_self, reduceIte, Nat.reduceEqDiff, Option.map]
  refine s_own (lo := c4) (tL := c12) (ps := [(t4, digs 18446744073709551616 x), (t5, digs 18446744073709551616 (A0 - x ^ 2)), (t6, digs 18446744073709551616 (ceilN A0 x))]) own_spec (by simp only [vm, ite_true, ite_false, eq_self, reduceIte, Nat.reduceEqDiff, Option.map]) (by omega) (by simp) (by simp) hp (by omega) (by simp [h45, h46, h56]) ?_
  (repeat (first | refine v_reg ?_ | refine v_last ?_ | refine vwp_seq ?_ | refine vwp_block ?_ | refine vwp_skip ?_ | refine vwp_exit ?_ | refine vwp_ret ?_ | refine v_cond ?_ | simp only [vm, ite_true, ite_false, eq_self, reduceIte, Nat.reduceEqDiff, Option.map, killed_own, thawL_lit, thawL_kn hp (show c4 ≤ c12 by omega) kw, thawL_kn hp (show c4 ≤ c12 by omega) kt] | refine And.intro (by omega) ?_))
  refine s_call (kept_spec (.id iw) t a (c12 + 1) (by omega)) (by simp only [vm, ite_true, ite_false, eq_self, reduceIte, Nat.reduceEqDiff, Option.map, List.map]) ?_
  rintro v c13 hc13 rfl
  (repeat (first | refine v_reg ?_ | refine v_last ?_ | refine vwp_seq ?_ | refine vwp_block ?_ | refine vwp_skip ?_ | refine vwp_exit ?_ | refine vwp_ret ?_ | refine v_cond ?_ | simp only [vm, ite_true, ite_false, eq_self, reduceIte, Nat.reduceEqDiff, Option.map] | refine And.intro (by omega) ?_))
  refine s_call (awake_spec c13) (by simp only [vm, ite_true, ite_false, eq_self, reduceIte, Nat.reduceEqDiff, Option.map, List.map]) ?_
  rintro v c14 hc14 rfl
  (repeat (first | refine v_reg ?_ | refine v_last ?_ | refine vwp_seq ?_ | refine vwp_block ?_ | refine vwp_skip ?_ | refine vwp_exit ?_ | refine vwp_ret ?_ | refine v_cond ?_ | simp only [vm, ite_true, ite_false, eq_self, reduceIte, Nat.reduceEqDiff, Option.map] | refine And.intro (by omega) ?_))
  omega
end Go.Proofs.Ytladcfeibpddeaa
set_option linter.unusedVariables false
set_option maxRecDepth 100000
namespace Go.Proofs.Ytladcfeibpddeaa
open Go.VM Go.ChangeShapes Go.WideShapes Go.ChangeAt Go.RowKit

theorem own : ownKnob Try.prog.godebug = none := by kernel_rfl
theorem cellsOfE : Try.prog.cellsOf 61 = 1 := by kernel_rfl
theorem rep_ints {W : World} {xs : List V} {vs : Array Value} {l : List (V × Value)} {μ : Nat → Nat} {n : Nat} (hx : xs = l.map Prod.fst) (hv : vs = (l.map Prod.snd).toArray) (h : ∀ p ∈ l, Rep W (fun b => b < W.heap.size) μ n p.1 p.2) :
    ∀ (j : Nat) (x : V) (v : Value), xs[j]? = some x → vs[j]? = some v → Rep W (fun b => b < W.heap.size) μ n x v := by
  intro j x v h1 h2
  subst hx hv
  rw [List.getElem?_map] at h1
  obtain ⟨p, hp, rfl⟩ := Option.map_eq_some_iff.1 h1
  have h2' : (l.map Prod.snd)[j]? = some v := by simpa using h2
  rw [List.getElem?_map, hp] at h2'
  cases h2'
  exact h p (List.mem_of_getElem? hp)
theorem row_contract (H : Type) (enc : TypeId × Value → H) (W : World) (base : Nat) (args : Array Value) (ds gs : List (DataW H)) (before : List MemPlace)
    (hval : ∀ (j : Nat) t v, Try.f8.params[j]? = some t → args[j]? = some v → Value.okWide Try.prog W .any base t v)
    (hW : DataW.Whole enc Try.prog Try.f8.params.toList Rows.rootSquaresSpec.vars false W args.toList ds gs before) (hk : Rows.uptoSmall H (ds ++ gs) = true) :
    Calls Try.prog 8 args W fun e W' => ∃ v, e = .returned v ∧ Rows.rootSquaresSpec.post enc Try.prog Try.f8 false true false false W args v W' := by
  have hW' := hW
  obtain ⟨p, q, hA0, hV, rfl, hfz, hnd⟩ := hW
  have hA : DataW.TrodAll enc Try.prog W 0 (fun _ => true) true Try.f8.params.toList args.toList ds p := hA0
  rw [Try.params8] at hA hval
  obtain ⟨v0, vs0, d0, ds0, p0, q0, hargs, rfl, rfl, h0, r0⟩ := trodAll_cons hA
  obtain ⟨rfl, rfl, rfl⟩ := trodAll_nil r0
  obtain rfl : args = #[v0] := by cases args; simp_all
  obtain ⟨rfl, rfl⟩ := trodVars_none hV
  clear hA0
  have hv0 := hval 0 25 v0 rfl rfl
  simp only [List.append_nil] at hW' hk
  obtain ⟨l, hl, hrep, hbulk, hshut⟩ := slice_arg Try.underlying25 Try.underlying61 cellsOfE hv0 h0 (fun p hp => hW'.lt p hp)
  have hb : Rows.uptoBulkAll [d0] ≤ 1048576 := of_decide_eq_true hk
  simp only [Rows.uptoBulkAll] at hb
  obtain ⟨n9, μ9, t9, ht9, hμ9, hrep⟩ := told_one hrep
  obtain ⟨r, c9, _, hc9, hr9⟩ := squares_law t9 l n9 ht9 hl (by omega)
  subst hr9
  refine (calls_sameT hc9 W μ9 hμ9 #[v0] rfl (rep_ints (l := [(nats t9 l, v0)]) rfl rfl (fun p hp => ?_)) ⟨_, rfl⟩).mono fun e W' ⟨v, he, hv, hs⟩ => ?_
  · simp only [List.mem_cons, List.not_mem_nil, or_false] at hp
    subst hp
    exact hrep
  subst he
  cases hv
  exact ⟨_, rfl, post_kept (pa := p0) (pv := []) hW' hs (fun _ _ _ => trodAll_cons_mk (shut_bool Try.underlying4 _) trodAll_mk0)
    (fun sp hsp => by
      have t0 := trodAll_cons_mk (hshut W' hs sp hsp) trodAll_mk0
      simp only [List.append_nil] at t0
      rw [Try.params8]
      exact t0) (fun _ _ => rfl) (by simp)
    (ok_one (by kernel_rfl) rfl (okWide_bool_mk Try.underlying4 _))⟩

theorem row_lifted (os : Os) (started : os.Started) (H : Type) (enc : TypeId × Value → H) (F : Stop.Interp) :
    ReturnsInHanded {} Try.checked os 8 .any ((Rows.OpenSpec.upto Rows.rootSquaresSpec).pre6 enc Try.prog Try.f8 Rows.rootSquaresUptoRow.domain false) (((Rows.OpenSpec.upto Rows.rootSquaresSpec).at F).post enc Try.prog Try.f8 false true false false) := by
  refine returnsInHanded_of_cond (C := Try.checked) (s := Rows.OpenSpec.upto Rows.rootSquaresSpec) (k := Rows.uptoSmall) rfl own started (by kernel_rfl) Try.func8
    (OpenSpec.witness (enc := enc) (C := Try.checked) (s := Rows.OpenSpec.upto Rows.rootSquaresSpec) (k := Rows.uptoSmall) rfl false ⟨#[], #[.slice none 0 0], []⟩ 8 (by kernel_rfl) (by kernel_rfl) (by kernel_rfl)
      (x := ([.nil], [], [])) (by kernel_rfl) rfl (by kernel_rfl)) ?_
  intro W base args ds gs before hval hW _ hk _
  exact row_contract H enc W base args ds gs before hval hW hk

theorem row_holds : Rows.RootSquaresUptoSaid :=
  OpenClaim.holds_of_cond 8 Try.f8 rfl rfl rfl rfl rfl rfl rfl ⟨rfl, rfl, rfl, rfl, rfl⟩ rfl rfl rfl rfl rfl (by kernel_rfl) Try.func8 (by kernel_rfl)
    (of_decide_eq_true (by kernel_rfl)) (by unfold Func.isWrapper; first | (rw [if_pos (by decide +kernel)]; kernel_rfl) | (rw [if_neg (by decide +kernel)]; exact ⟨rfl, rfl⟩))
    (fun os started H enc _ F => row_lifted os started H enc F)
#print axioms row_holds
end Go.Proofs.Ytladcfeibpddeaa
