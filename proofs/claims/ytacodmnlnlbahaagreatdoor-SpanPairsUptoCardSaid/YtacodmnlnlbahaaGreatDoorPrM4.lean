/- Texts of a claim, merged: what they prove is told at the last one's head. -/
import Derived.Test.YtacodmnlnlbahaaGreatDoorPrM3
import Derived.Lib.Mul64
set_option linter.unusedSimpArgs false
set_option linter.unusedVariables false
set_option maxRecDepth 100000
set_option maxHeartbeats 8000000
namespace Go.Proofs.YtacodmnlnlbahaaGreatDoor
open Go.VM

theorem rows_inj : ∀ {ds : List (Option (Nat × Nat))}, (rowIds ds).Nodup → ∀ {i j t n m : Nat}, ds[i]? = some (some (t, n)) → ds[j]? = some (some (t, m)) → i = j
  | [], _, i, j, t, n, m, h, _ => by simp at h
  | d :: ds, hn, i, j, t, n, m, h, h' => by
    have mem : ∀ {k q : Nat}, ds[k]? = some (some (t, q)) → t ∈ rowIds ds := fun h => List.mem_filterMap.2 ⟨_, List.mem_of_getElem? h, rfl⟩
    have tl : (rowIds ds).Nodup := by
      cases d with
      | none => exact hn
      | some q => exact (List.nodup_cons.1 hn).2
    have hd : ∀ q, d = some (t, q) → t ∉ rowIds ds := by
      rintro q rfl
      exact (List.nodup_cons.1 hn).1
    cases i with
    | zero =>
      cases j with
      | zero => rfl
      | succ j =>
        simp only [List.getElem?_cons_zero, Option.some.injEq] at h
        simp only [List.getElem?_cons_succ] at h'
        exact absurd (mem h') (hd _ h)
    | succ i =>
      cases j with
      | zero =>
        simp only [List.getElem?_cons_zero, Option.some.injEq] at h'
        simp only [List.getElem?_cons_succ] at h
        exact absurd (mem h) (hd _ h')
      | succ j =>
        simp only [List.getElem?_cons_succ] at h h'
        exact congrArg Nat.succ (rows_inj tl h h')

structure RowS (σ : Nat → Option Blk) (tL : Nat) (ds : List (Option (Nat × Nat))) : Prop where
  hd : σ tL = some ⟨ds.map rowOf, true⟩
  row : ∀ (i t n : Nat), ds[i]? = some (some (t, n)) → t ≠ tL ∧ n ≤ 4398046511200 ∧ ∃ cells, σ t = some ⟨cells, true⟩ ∧ n ≤ cells.length
  inj : ∀ (i j t n m : Nat), ds[i]? = some (some (t, n)) → ds[j]? = some (some (t, m)) → i = j
def Holds (σ : Nat → Option Blk) (d : Option (Nat × Nat)) (f : Nat → Nat) : Prop := ∀ t n, d = some (t, n) → ∃ cells, σ t = some ⟨cells, true⟩ ∧ ∀ k, k < n → cells[k]? = some (nv (f k))
theorem Holds.none {σ : Nat → Option Blk} {f : Nat → Nat} : Holds σ none f := fun t n h => by cases h
theorem Holds.congr {σ : Nat → Option Blk} {d : Option (Nat × Nat)} {f g : Nat → Nat} (h : Holds σ d f) (e : ∀ t n, d = some (t, n) → ∀ k, k < n → f k = g k) : Holds σ d g := fun t n hd => by
  obtain ⟨cells, h1, h2⟩ := h t n hd
  exact ⟨cells, h1, fun k hk => by rw [h2 k hk, e t n hd k hk]⟩
theorem Holds.put {σ : Nat → Option Blk} {d : Option (Nat × Nat)} {f : Nat → Nat} (h : Holds σ d f) {t : Nat} {b : Option Blk} (ht : ∀ n, d ≠ some (t, n)) : Holds (supd σ t b) d f := fun u n hd => by
  obtain ⟨cells, h1, h2⟩ := h u n hd
  refine ⟨cells, ?_, h2⟩
  rw [supd_app, if_neg (fun e => ht n (by rw [← e]; exact hd))]
  exact h1
theorem RowS.put {σ : Nat → Option Blk} {tL : Nat} {ds : List (Option (Nat × Nat))} (h : RowS σ tL ds) {t : Nat} {cells : List V} (ht : t ≠ tL) (hn : ∀ (i n : Nat), ds[i]? = some (some (t, n)) → n ≤ cells.length) : RowS (supd σ t (some ⟨cells, true⟩)) tL ds := by
  refine ⟨?_, fun i u n hi => ?_, h.inj⟩
  · rw [supd_app, if_neg (Ne.symm ht)]; exact h.hd
  · obtain ⟨h1, h2, cs, h3, h4⟩ := h.row i u n hi
    refine ⟨h1, h2, ?_⟩
    by_cases e : u = t
    · subst e
      exact ⟨cells, supd_same _ _ _, hn i n hi⟩
    · exact ⟨cs, by rw [supd_app, if_neg e]; exact h3, h4⟩
theorem RowS.len {σ : Nat → Option Blk} {tL : Nat} {ds : List (Option (Nat × Nat))} (h : RowS σ tL ds) {i : Nat} {d : Option (Nat × Nat)} (hi : ds[i]? = some d) : (ds.map rowOf)[i]? = some (rowOf d) := by
  rw [List.getElem?_map, hi]; rfl

theorem d_cells {cs : List V} {b : Bool} {i : Nat} : dload (some ⟨cs, b⟩) none i = cs[i]? := rfl
theorem t_celln {σ : Nat → Option Blk} {cs : List V} {t i x : Nat} : dstore (some ⟨cs, true⟩) σ t 1 i (nv x) = if i < cs.length then some (supd σ t (some ⟨cs.set i (nv x), true⟩)) else none := by
  have h0 : dstore (some ⟨cs, true⟩) σ t 1 i (nv x) = if true = true ∧ [nv x].length = 1 ∧ i + 1 ≤ cs.length then some (supd σ t (some ⟨putCells cs i [nv x], true⟩)) else none := rfl
  rw [h0]
  by_cases h : i < cs.length
  · rw [if_pos h, if_pos ⟨rfl, rfl, by omega⟩]; rfl
  · rw [if_neg h, if_neg (by omega)]
theorem t_cellb {σ : Nat → Option Blk} {cs : List V} {t i u o m sz : Nat} {cp : Option Nat} : dstore (some ⟨cs, true⟩) σ t 1 i (.buf u o m cp sz) = if i < cs.length then some (supd σ t (some ⟨cs.set i (.buf u o m cp sz), true⟩)) else none := by
  have h0 : dstore (some ⟨cs, true⟩) σ t 1 i (.buf u o m cp sz) = if true = true ∧ [V.buf u o m cp sz].length = 1 ∧ i + 1 ≤ cs.length then some (supd σ t (some ⟨putCells cs i [.buf u o m cp sz], true⟩)) else none := rfl
  rw [h0]
  by_cases h : i < cs.length
  · rw [if_pos h, if_pos ⟨rfl, rfl, by omega⟩]; rfl
  · rw [if_neg h, if_neg (by omega)]

theorem own_mk {P : Program} (hmx : P.follows .mixedOrders = true) {f : FuncId} {fn : Func} {code : Code} {vc : VC} {rs : List VRes} (hf : P.funcs[f]? = some fn) (hb : fn.body = some code) (hvc : resCode P fn.ntmps code = vc) (hrs : resResults P fn.results.toList = some rs)
    (hn : 1 ≤ fn.ntmps) (h : ∀ (cg tL : Nat) (σg : Nat → Option Blk) (bs : List (Option (Nat × Nat))), RowS σg tL bs → bs.length ≤ 1000000 → (∀ (i t n : Nat), bs[i]? = some (some (t, n)) → n ≤ 4398046511104) → (∀ t k, σg t = some k → t < cg) →
      VWP P 0 vc (retQ rs fun r c' => r = .lit (.bool true)) ⟨Go.VM.start [.buf tL 0 bs.length none 1], σg, cg⟩) : OwnSpec P f := by
  intro cg tL σg bs h1 h2 h3 h4
  by_cases hd : ∀ t k, σg t = some k → t < cg
  · obtain ⟨e, S', he, hq⟩ := h cg tL σg bs ⟨h1, fun i t n hi => by
      obtain ⟨q1, q2, q3⟩ := h3 t n (List.mem_of_getElem? hi)
      exact ⟨q1, by omega, q3⟩, fun i j t n m => rows_inj h4⟩ h2 (fun i t n hi => (h3 t n (List.mem_of_getElem? hi)).2.1) hd
    have key : ∀ r, vresult S' rs = some r → (e = .ret ∨ e = .normal) → r = .lit (.bool true) → ∃ σ' c', VCallsG P f 0 cg noBlk σg [.buf tL 0 bs.length none 1] (.lit (.bool true)) σ' c' := fun r hr he' e1 => by
      subst e1
      exact ⟨noBlk, S'.c, vcallsG_of_exec hmx hf hb hvc hrs (by simpa using hn) he he' hr (fun t k h => by cases h) (fun t h => absurd rfl h)⟩
    cases e with
    | normal => rw [retQ_normal] at hq; obtain ⟨r, hr, h1⟩ := hq; exact key r hr (.inr rfl) h1
    | ret => rw [retQ_ret] at hq; obtain ⟨r, hr, h1⟩ := hq; exact key r hr (.inl rfl) h1
    | exit id => unfold retQ at hq; exact hq.elim
  · refine ⟨noBlk, 0, fun w Φ μ μg giv vs hmm => absurd (fun t k hk => ?_) hd⟩
    rcases hmm.dom t k hk with ⟨_, h⟩ | ⟨h, _⟩
    · exact h
    · exact absurd h (Nat.not_lt_zero _)

theorem v_once {P : Program} {c0 : Nat} {b : VC} {S : VS} {Q : VEx → VS → Prop} (h : VWP P c0 b (fun e S' => match e with | .normal => False | e => Q e S') S) : VWP P c0 (.loop b) Q S := by
  refine vwp_loop (fun _ S' => S' = S) 0 rfl ?_
  rintro n S' rfl
  refine vwp_mono h ?_
  intro e S2 h2
  cases e with
  | normal => exact h2.elim
  | exit j => exact h2
  | ret => exact h2

section
variable {P : Program} {dr : Bool} {c0 : Nat} {ρ : Nat → V} {σ : Nat → Option Blk} {c i : Nat} {r : List VO} {K : VS → Prop}
theorem s_bsl5 {x0 x1 x2 x3 x4 : X} {n0 n1 n2 n3 n4 : Nat} (h0 : x0.ev ρ = nv n0) (h1 : x1.ev ρ = nv n1) (h2 : x2.ev ρ = nv n2) (h3 : x3.ev ρ = nv n3) (h4 : x4.ev ρ = nv n4) (hk : wps P dr c0 r ⟨upd ρ i (nats (.id c) [n0, n1, n2, n3, n4]), σ, c + 1⟩ K) :
    wps P dr c0 (⟨some i, .bsl true 1 5 [.int .u64 0] [(0, (1, x0)), (1, (1, x1)), (2, (1, x2)), (3, (1, x3)), (4, (1, x4))], none⟩ :: r) ⟨ρ, σ, c⟩ K := by
  refine s_eff rfl (by intros; exact fun h => by cases h) (by intros; exact fun h => by cases h) ⟨_, _, _, none, .bsl (cs := [nv n0, nv n1, nv n2, nv n3, nv n4]) ?_, hk⟩
  simp only [partsOf, List.map, h0, h1, h2, h3, h4]
  rfl
theorem s_appmvG {x y : X} {t n : Nat} {cap : Option Nat} {cs : List V} {ys : List Nat} {u : Tok} (hx : x.ev ρ = .buf t 0 n cap 1) (ht : σ t = some ⟨cs, true⟩) (h0 : c0 ≤ t) (hy : y.ev ρ = nats u ys) (hn : n ≤ cs.length) (hb : n + ys.length ≤ 8796093022208)
    (hk : wps P dr c0 r ⟨upd (kill (some (.inl t)) ρ) i (.buf t 0 (n + ys.length) none 1), supd (killσ t σ) t (some ⟨(cs.take n).map (killV t) ++ ys.map nv, true⟩), c⟩ K) : wps P dr c0 (⟨some i, .app 1 8 [.int .u64 0] x y, none⟩ :: r) ⟨ρ, σ, c⟩ K := by
  have hc : vcells 1 σ (y.ev ρ) = some (ys.map nv) := by rw [hy]; cases u <;> rfl
  refine s_eff rfl (by intros; exact fun h => by cases h) (by intros; exact fun h => by cases h) ⟨_, _, _, some (.inl t), .appMove (k := ys.length) hx ht h0 hc (by simp) (by omega) (by omega) (by omega), ?_⟩
  have e : ((cs.take (n * 1)) ++ ys.map nv).map (killV t) = (cs.take n).map (killV t) ++ ys.map nv := by
    rw [Nat.mul_one, List.map_append]
    have : (ys.map nv).map (killV t) = ys.map nv := by rw [List.map_map]; rfl
    rw [this]
  rw [e]
  exact hk
end
theorem killed_at (t : Nat) (ρ : Nat → V) (j : Nat) : kill (some (.inl t)) ρ j = killV t (ρ j) := rfl
theorem killed_lit (t : Nat) (v : Value) : killV t (.lit v) = .lit v := rfl
theorem killed_buf {t u o n sz : Nat} {cp : Option Nat} (h : u ≠ t) : killV t (.buf u o n cp sz) = .buf u o n cp sz := by simp [killV, h]
theorem killσ_at {t : Nat} {σ : Nat → Option Blk} {u : Nat} {cs : List V} {b : Bool} (h : σ u = some ⟨cs, b⟩) : killσ t σ u = some ⟨cs.map (killV t), b⟩ := by simp [killσ, h]

def rowLen : Option (Nat × Nat) → Nat
  | none => 0
  | some q => q.2

theorem Holds.kill {σ : Nat → Option Blk} {d : Option (Nat × Nat)} {f : Nat → Nat} (h : Holds σ d f) (t : Nat) : Holds (killσ t σ) d f := fun u n hd => by
  obtain ⟨cells, h1, h2⟩ := h u n hd
  exact ⟨_, killσ_at h1, fun k hk => by rw [List.getElem?_map, h2 k hk]; rfl⟩

theorem set_get {ds : List (Option (Nat × Nat))} {i j : Nat} {d x : Option (Nat × Nat)} (h : (ds.set i x)[j]? = some d) : (j = i ∧ d = x) ∨ (j ≠ i ∧ ds[j]? = some d) := by
  rw [List.getElem?_set] at h
  split at h
  · rename_i e
    split at h
    · exact .inl ⟨e.symm, by cases h; rfl⟩
    · cases h
  · rename_i e; exact .inr ⟨fun q => e q.symm, h⟩

theorem RowS.grow {σ : Nat → Option Blk} {tL : Nat} {ds : List (Option (Nat × Nat))} (h : RowS σ tL ds) {i t m : Nat} (hi : ds[i]? = some (some (t, m))) {cs ys : List V} (hn : (m + 5 ≤ cs.length)) (hm2 : m + 5 ≤ 4398046511200) :
    RowS (supd (supd (killσ t σ) t (some ⟨cs, true⟩)) tL (some ⟨((ds.map rowOf).map (killV t)).set i (.buf t 0 (m + 5) none 1), true⟩)) tL (ds.set i (some (t, m + 5))) := by
  have hne := (h.row i t m hi).1
  have hil : i < ds.length := (List.getElem?_eq_some_iff.1 hi).1
  refine ⟨?_, fun j u n hj => ?_, fun j k u n n' hj hk => ?_⟩
  · rw [supd_same]
    refine congrArg some (congrArg (fun l => (⟨l, true⟩ : Blk)) ?_)
    refine List.ext_getElem? fun j => ?_
    rw [List.map_set, List.getElem?_set, List.getElem?_set]
    simp only [List.length_map]
    by_cases e : i = j
    · subst e; rw [if_pos rfl, if_pos rfl]; rfl
    · rw [if_neg e, if_neg e, List.getElem?_map, List.getElem?_map]
      cases hj : ds[j]? with
      | none => rfl
      | some d =>
        cases d with
        | none => rfl
        | some q =>
          obtain ⟨u, n⟩ := q
          have : u ≠ t := by rintro rfl; exact e (h.inj i j u m n hi hj)
          simp only [Option.map, rowOf, killed_buf this]
  · rcases set_get hj with ⟨rfl, e⟩ | ⟨e, hj2⟩
    · cases e
      exact ⟨hne, hm2, cs, by rw [supd_ne _ _ _ _ hne, supd_same], hn⟩
    · obtain ⟨q1, q2, cells, q3, q4⟩ := h.row j u n hj2
      have : u ≠ t := by rintro rfl; exact e (h.inj j i u n m hj2 hi)
      exact ⟨q1, q2, _, by rw [supd_ne _ _ _ _ q1, supd_ne _ _ _ _ this]; exact killσ_at q3, by simpa using q4⟩
  · rcases set_get hj with ⟨rfl, e⟩ | ⟨e, hj2⟩ <;> rcases set_get hk with ⟨rfl, e'⟩ | ⟨e', hk2⟩
    · rfl
    · cases e; exact absurd (h.inj _ _ _ _ _ hk2 hi) e'
    · cases e'; exact absurd (h.inj _ _ _ _ _ hj2 hi) e
    · exact h.inj _ _ _ _ _ hj2 hk2
theorem RowS.fresh {σ : Nat → Option Blk} {tL : Nat} {ds : List (Option (Nat × Nat))} (h : RowS σ tL ds) {i t : Nat} (hi : ds[i]? = some none) {cs : List V} (hn : (5 ≤ cs.length)) (hd : ∀ u k, σ u = some k → u < t) :
    RowS (supd (supd σ t (some ⟨cs, true⟩)) tL (some ⟨(ds.map rowOf).set i (.buf t 0 5 none 1), true⟩)) tL (ds.set i (some (t, 5))) := by
  have hne : t ≠ tL := fun e => by have := hd tL _ h.hd; omega
  have hil : i < ds.length := (List.getElem?_eq_some_iff.1 hi).1
  have hnew : ∀ (j u n : Nat), ds[j]? = some (some (u, n)) → u ≠ t := fun j u n hj e => by
    obtain ⟨_, _, cells, q, _⟩ := h.row j u n hj
    have := hd u _ q
    omega
  refine ⟨?_, fun j u n hj => ?_, fun j k u n n' hj hk => ?_⟩
  · rw [supd_same]
    refine congrArg some (congrArg (fun l => (⟨l, true⟩ : Blk)) ?_)
    rw [List.map_set]; rfl
  · rcases set_get hj with ⟨rfl, e⟩ | ⟨e, hj2⟩
    · cases e
      exact ⟨hne, by omega, cs, by rw [supd_ne _ _ _ _ hne, supd_same], hn⟩
    · obtain ⟨q1, q2, cells, q3, q4⟩ := h.row j u n hj2
      exact ⟨q1, q2, cells, by rw [supd_ne _ _ _ _ q1, supd_ne _ _ _ _ (hnew j u n hj2)]; exact q3, q4⟩
  · rcases set_get hj with ⟨rfl, e⟩ | ⟨e, hj2⟩ <;> rcases set_get hk with ⟨rfl, e'⟩ | ⟨e', hk2⟩
    · rfl
    · cases e; exact absurd rfl (hnew _ _ _ hk2)
    · cases e'; exact absurd rfl (hnew _ _ _ hj2)
    · exact h.inj _ _ _ _ _ hj2 hk2

def f1 (j : Nat) : Nat → Nat := fun _ => j % 251 + 1
def f2 (j m : Nat) : Nat → Nat := fun k => if k < m then j % 251 + 1 else 300 + 5 * j + (k - m)
def Dom (σ : Nat → Option Blk) (c : Nat) : Prop := ∀ t k, σ t = some k → t < c
theorem Dom.put {σ : Nat → Option Blk} {c : Nat} (h : Dom σ c) {t : Nat} {b : Option Blk} (ht : t < c) : Dom (supd σ t b) c := fun u k hk => by
  rw [supd_app] at hk
  split at hk
  · rename_i e; rw [e]; exact ht
  · exact h u k hk

theorem own_spec : OwnSpec Tryz.prog F.surdref01_Own := by
  refine own_mk hm E.surdref01_Own B.surdref01_Own K.surdref01_Own Q.surdref01_Own (by rw [N.surdref01_Own]; decide) ?_
  unfold C.surdref01_Own R.surdref01_Own
  intro cg tL σg bs hR hlen hsz hcg
  (repeat (first | refine v_reg ?_ | refine v_last ?_ | refine vwp_seq ?_ | refine vwp_block ?_ | refine vwp_skip ?_ | refine vwp_exit ?_ | refine vwp_ret ?_ | refine v_cond ?_ | simp only [vm, ite_true, ite_false, eq_self, reduceIte, Nat.reduceEqDiff, Option.map] | refine And.intro (by omega) ?_))
  refine v_loop (fun S => S.ρ 0 = .buf tL 0 bs.length none 1 ∧ RowS S.σ tL bs ∧ (∀ (j : Nat) d, bs[j]? = some d → Holds S.σ d (f1 j)) ∧ Dom S.σ S.c) ?_ ?_
  · refine vwp_loop (fun k S => ∃ i, k = bs.length - i ∧ i ≤ bs.length ∧ S.ρ 0 = .buf tL 0 bs.length none 1 ∧ S.ρ 13 = .buf tL 0 bs.length none 1 ∧ S.ρ 14 = iv (bs.length : Int) ∧ S.ρ 15 = iv (i : Int) ∧ RowS S.σ tL bs ∧ (∀ (j : Nat) d, j < i → bs[j]? = some d → Holds S.σ d (f1 j)) ∧ Dom S.σ S.c) bs.length ?_ ?_
    · exact ⟨0, rfl, Nat.zero_le _, rfl, rfl, rfl, rfl, hR, fun j d h => absurd h (Nat.not_lt_zero _), hcg⟩
    rintro k ⟨ρ2, σ, c2⟩ ⟨i, hk, hin, h0, h13, h14, h15, hR, hH, hc⟩
    dsimp only at h0 h13 h14 h15 hR hH hc
    by_cases g : (i : Int) < bs.length
    · have hil : i < bs.length := by omega
      have hdi := List.getElem?_eq_getElem hil
      have hdr := hR.len hdi
      have hL := hR.hd
      cases hd : bs[i] with
      | none =>
        rw [hd] at hdi hdr
        simp only [rowOf] at hdr
        have z0 : ¬ (0 : Int) < 0 := by decide
        have e1 : (i : Int) + 1 = ((i + 1 : Nat) : Int) := by omega
        (repeat (first | refine v_reg ?_ | refine v_last ?_ | refine vwp_seq ?_ | refine vwp_block ?_ | refine vwp_skip ?_ | refine vwp_exit ?_ | refine vwp_ret ?_ | refine v_cond ?_ | simp only [vm, ite_true, ite_false, eq_self, reduceIte, Nat.reduceEqDiff, Option.map, h0, h13, h14, h15, g, hL, d_cells, hdr, l_nil] | refine And.intro (by omega) ?_))
        refine v_once ?_
        (repeat (first | refine v_reg ?_ | refine v_last ?_ | refine vwp_seq ?_ | refine vwp_block ?_ | refine vwp_skip ?_ | refine vwp_exit ?_ | refine vwp_ret ?_ | refine v_cond ?_ | simp only [vm, ite_true, ite_false, eq_self, reduceIte, Nat.reduceEqDiff, Option.map, z0, h0, h13, h14, h15, e1] | refine And.intro (by omega) ?_))
        have a1 : ∀ (j : Nat) d, j < i + 1 → bs[j]? = some d → Holds σ d (f1 j) := fun j d hj hjd => by
          by_cases e : j = i
          · subst e; rw [hdi] at hjd; cases hjd; exact Holds.none
          · exact hH j d (by omega) hjd
        refine ⟨bs.length - (i + 1), by omega, i + 1, ?_⟩
        (repeat' apply And.intro) <;> first | rfl | omega | assumption | exact a1
      | some q =>
        obtain ⟨t, m⟩ := q
        rw [hd] at hdi hdr
        simp only [rowOf] at hdr
        have e1 : (i : Int) + 1 = ((i + 1 : Nat) : Int) := by omega
        have hm2 := hsz i t m hdi
        (repeat (first | refine v_reg ?_ | refine v_last ?_ | refine vwp_seq ?_ | refine vwp_block ?_ | refine vwp_skip ?_ | refine vwp_exit ?_ | refine vwp_ret ?_ | refine v_cond ?_ | simp only [vm, ite_true, ite_false, eq_self, reduceIte, Nat.reduceEqDiff, Option.map, h0, h13, h14, h15, g, hL, d_cells, hdr] | refine And.intro (by omega) ?_))
        refine vwp_mono (Q := fun e S => e = .exit 2 ∧ S.ρ 0 = .buf tL 0 bs.length none 1 ∧ S.ρ 13 = .buf tL 0 bs.length none 1 ∧ S.ρ 14 = iv (bs.length : Int) ∧ S.ρ 15 = iv (i : Int) ∧ RowS S.σ tL bs ∧ (∀ (j : Nat) d, j < i + 1 → bs[j]? = some d → Holds S.σ d (f1 j)) ∧ Dom S.σ S.c) ?_ ?_
        · refine vwp_loop (fun k2 S => ∃ q, k2 = m - q ∧ q ≤ m ∧ S.ρ 0 = .buf tL 0 bs.length none 1 ∧ S.ρ 13 = .buf tL 0 bs.length none 1 ∧ S.ρ 14 = iv (bs.length : Int) ∧ S.ρ 15 = iv (i : Int) ∧ S.ρ 3 = iv (i : Int) ∧ S.ρ 4 = .buf t 0 m none 1 ∧ S.ρ 21 = iv (m : Int) ∧ S.ρ 22 = iv (q : Int) ∧ RowS S.σ tL bs ∧ (∀ (j : Nat) d, j < i → bs[j]? = some d → Holds S.σ d (f1 j)) ∧ Dom S.σ S.c ∧ Holds S.σ (some (t, q)) (f1 i)) m ?_ ?_
          · refine ⟨0, rfl, Nat.zero_le _, ?_⟩
            simp only [vm, ite_true, ite_false, eq_self, reduceIte, Nat.reduceEqDiff, Option.map, h0, h13, h14, h15]
            obtain ⟨_, _, cells, q3, q4⟩ := hR.row i t m hdi
            have a1 : Holds σ (some (t, 0)) (f1 i) := fun u n h => by cases h; exact ⟨cells, q3, fun k hk => absurd hk (Nat.not_lt_zero _)⟩
            (repeat' apply And.intro) <;> first | rfl | omega | assumption | exact hR | exact hH | exact hc | exact a1
          rintro k2 ⟨ρ3, σ3, c3⟩ ⟨q, hk2, hq, h0, h13, h14, h15, h3, h4, h21, h22, hR3, hH3, hc3, hq3⟩
          dsimp only at h0 h13 h14 h15 h3 h4 h21 h22 hR3 hH3 hc3 hq3
          by_cases g2 : (q : Int) < m
          · obtain ⟨htL, _, cells, q3, q4⟩ := hR3.row i t m hdi
            obtain ⟨cells', q3', q5⟩ := hq3 t q rfl
            obtain rfl : cells' = cells := by rw [q3] at q3'; cases q3'; rfl
            have hql : q < cells'.length := by omega
            have e2 : ((i : Int) % 251 + 1).toNat = i % 251 + 1 := by omega
            have e3 : (q : Int) + 1 = ((q + 1 : Nat) : Int) := by omega
            (repeat (first | refine v_reg ?_ | refine v_last ?_ | refine vwp_seq ?_ | refine vwp_block ?_ | refine vwp_skip ?_ | refine vwp_exit ?_ | refine vwp_ret ?_ | refine v_cond ?_ | simp only [vm, ite_true, ite_false, eq_self, reduceIte, Nat.reduceEqDiff, Option.map, h0, h13, h14, h15, h3, h4, h21, h22, g2, e2, q3, t_celln, hql, e3] | refine And.intro (by omega) ?_))
            have a1 := hR3.put (cells := cells'.set q (nv (i % 251 + 1))) htL (fun j n hj => by rw [List.length_set]; have := hR3.inj i j t m n hdi hj; subst this; rw [hdi] at hj; cases hj; exact q4)
            have a2 : ∀ (j : Nat) d, j < i → bs[j]? = some d → Holds (supd σ3 t (some ⟨cells'.set q (nv (i % 251 + 1)), true⟩)) d (f1 j) := fun j d hj hjd => (hH3 j d hj hjd).put (fun n e => by subst e; have := hR3.inj i j t m n hdi hjd; omega)
            have a3 := hc3.put (b := some ⟨cells'.set q (nv (i % 251 + 1)), true⟩) (hc3 _ _ q3)
            have a4 : Holds (supd σ3 t (some ⟨cells'.set q (nv (i % 251 + 1)), true⟩)) (some (t, q + 1)) (f1 i) := fun u n h => by
              cases h
              refine ⟨_, supd_same _ _ _, fun k hk => ?_⟩
              rw [List.getElem?_set]
              by_cases e : q = k
              · subst e; rw [if_pos rfl, if_pos hql]; rfl
              · rw [if_neg e]; exact q5 k (by omega)
            refine ⟨m - (q + 1), by omega, q + 1, ?_⟩
            (repeat' apply And.intro) <;> first | rfl | omega | assumption | exact a4
          · have hqm : q = m := by omega
            (repeat (first | refine v_reg ?_ | refine v_last ?_ | refine vwp_seq ?_ | refine vwp_block ?_ | refine vwp_skip ?_ | refine vwp_exit ?_ | refine vwp_ret ?_ | refine v_cond ?_ | simp only [vm, ite_true, ite_false, eq_self, reduceIte, Nat.reduceEqDiff, Option.map, h0, h13, h14, h15, h3, h4, h21, h22, g2] | refine And.intro (by omega) ?_))
            refine ⟨fun j d hj hjd => ?_, hc3⟩
            by_cases e : j = i
            · subst e; rw [hdi] at hjd; cases hjd; rw [← hqm]; exact hq3
            · exact hH3 j d (by omega) hjd
        · rintro _ ⟨ρ3, σ3, c3⟩ ⟨rfl, h0, h13, h14, h15, hR3, hH3, hc3⟩
          dsimp only at h0 h13 h14 h15 hR3 hH3 hc3
          (repeat (first | refine v_reg ?_ | refine v_last ?_ | refine vwp_seq ?_ | refine vwp_block ?_ | refine vwp_skip ?_ | refine vwp_exit ?_ | refine vwp_ret ?_ | refine v_cond ?_ | simp only [vm, ite_true, ite_false, eq_self, reduceIte, Nat.reduceEqDiff, Option.map, h0, h13, h14, h15, e1] | refine And.intro (by omega) ?_))
          refine ⟨bs.length - (i + 1), by omega, i + 1, ?_⟩
          (repeat' apply And.intro) <;> first | rfl | omega | assumption | exact hc3
    · (repeat (first | refine v_reg ?_ | refine v_last ?_ | refine vwp_seq ?_ | refine vwp_block ?_ | refine vwp_skip ?_ | refine vwp_exit ?_ | refine vwp_ret ?_ | refine v_cond ?_ | simp only [vm, ite_true, ite_false, eq_self, reduceIte, Nat.reduceEqDiff, Option.map, h0, h13, h14, h15, g] | refine And.intro (by omega) ?_))
      exact ⟨fun j d hj => hH j d (by have := (List.getElem?_eq_some_iff.1 hj).1; omega) hj, hc⟩
  rintro ⟨ρ2, σ2, c2⟩ ⟨h0, hR2, hH2, hc2⟩
  dsimp only at h0 hR2 hH2 hc2
  (repeat (first | refine v_reg ?_ | refine v_last ?_ | refine vwp_seq ?_ | refine vwp_block ?_ | refine vwp_skip ?_ | refine vwp_exit ?_ | refine vwp_ret ?_ | refine v_cond ?_ | simp only [vm, ite_true, ite_false, eq_self, reduceIte, Nat.reduceEqDiff, Option.map, h0] | refine And.intro (by omega) ?_))
  refine v_loop (fun S => S.ρ 0 = .buf tL 0 bs.length none 1 ∧ ∃ ds, ds.length = bs.length ∧ RowS S.σ tL ds ∧ (∀ (j : Nat), j < bs.length → ∃ t, ds[j]? = some (some (t, rowLen (bs.getD j none) + 5)) ∧ Holds S.σ (some (t, rowLen (bs.getD j none) + 5)) (f2 j (rowLen (bs.getD j none)))) ∧ Dom S.σ S.c) ?_ ?_
  · refine vwp_loop (fun k S => ∃ i, k = bs.length - i ∧ i ≤ bs.length ∧ S.ρ 0 = .buf tL 0 bs.length none 1 ∧ S.ρ 34 = .buf tL 0 bs.length none 1 ∧ S.ρ 35 = iv (bs.length : Int) ∧ S.ρ 36 = iv (i : Int) ∧ ∃ ds, ds.length = bs.length ∧ RowS S.σ tL ds ∧
      (∀ (j : Nat), j < i → ∃ t, ds[j]? = some (some (t, rowLen (bs.getD j none) + 5)) ∧ Holds S.σ (some (t, rowLen (bs.getD j none) + 5)) (f2 j (rowLen (bs.getD j none)))) ∧
      (∀ (j : Nat) d, i ≤ j → bs[j]? = some d → ds[j]? = some d ∧ Holds S.σ d (f1 j)) ∧ Dom S.σ S.c) bs.length ?_ ?_
    · exact ⟨0, rfl, Nat.zero_le _, h0, rfl, rfl, rfl, bs, rfl, hR2, fun j h => absurd h (Nat.not_lt_zero _), fun j d _ h => ⟨h, hH2 j d h⟩, hc2⟩
    rintro k ⟨ρ3, σ, c3⟩ ⟨i, hk, hin, h0, h34, h35, h36, ds, hdl, hR, hA, hB, hc⟩
    dsimp only at h0 h34 h35 h36 hR hA hB hc
    by_cases g : (i : Int) < bs.length
    · have hil : i < bs.length := by omega
      have hbi := List.getElem?_eq_getElem hil
      obtain ⟨hdi, hHi⟩ := hB i _ (Nat.le_refl _) hbi
      have hdr := hR.len hdi
      have hL := hR.hd
      have e1 : (i : Int) + 1 = ((i + 1 : Nat) : Int) := by omega
      have e2 : (300 + 5 * (i : Int)).toNat = 300 + 5 * i := by omega
      have m1 : (300 + 5 * i + 1) % 18446744073709551616 = 300 + 5 * i + 1 := Nat.mod_eq_of_lt (by omega)
      have m2 : (300 + 5 * i + 2) % 18446744073709551616 = 300 + 5 * i + 2 := Nat.mod_eq_of_lt (by omega)
      have m3 : (300 + 5 * i + 3) % 18446744073709551616 = 300 + 5 * i + 3 := Nat.mod_eq_of_lt (by omega)
      have m4 : (300 + 5 * i + 4) % 18446744073709551616 = 300 + 5 * i + 4 := Nat.mod_eq_of_lt (by omega)
      obtain ⟨ys, hys⟩ : ∃ ys, ys = [300 + 5 * i, 300 + 5 * i + 1, 300 + 5 * i + 2, 300 + 5 * i + 3, 300 + 5 * i + 4] := ⟨_, rfl⟩
      have hyl : ys.length = 5 := by rw [hys]; rfl
      have hyk : ∀ k, k < 5 → (ys.map nv)[k]? = some (nv (300 + 5 * i + k)) := fun k hk => by
        rw [hys]
        match k, hk with
        | 0, _ => rfl
        | 1, _ => rfl
        | 2, _ => rfl
        | 3, _ => rfl
        | 4, _ => rfl
      cases hd : bs[i] with
      | none =>
        rw [hd] at hdi hdr hbi hHi
        simp only [rowOf] at hdr
        have hrl : rowLen (bs.getD i none) = 0 := by rw [List.getD_eq_getElem?_getD, hbi]; rfl
        (repeat (first | refine v_reg ?_ | refine v_last ?_ | refine vwp_seq ?_ | refine vwp_block ?_ | refine vwp_skip ?_ | refine vwp_exit ?_ | refine vwp_ret ?_ | refine v_cond ?_ | simp only [vm, ite_true, ite_false, eq_self, reduceIte, Nat.reduceEqDiff, Option.map, h0, h34, h35, h36, g, hL, d_cells, hdr, e2, m1, m2, m3, m4] | refine And.intro (by omega) ?_))
        refine s_bsl5 (n0 := 300 + 5 * i) (n1 := 300 + 5 * i + 1) (n2 := 300 + 5 * i + 2) (n3 := 300 + 5 * i + 3) (n4 := 300 + 5 * i + 4) (by simp only [vm, ite_true, ite_false, eq_self, reduceIte, Nat.reduceEqDiff, Option.map]) (by simp only [vm, ite_true, ite_false, eq_self, reduceIte, Nat.reduceEqDiff, Option.map]) (by simp only [vm, ite_true, ite_false, eq_self, reduceIte, Nat.reduceEqDiff, Option.map]) (by simp only [vm, ite_true, ite_false, eq_self, reduceIte, Nat.reduceEqDiff, Option.map]) (by simp only [vm, ite_true, ite_false, eq_self, reduceIte, Nat.reduceEqDiff, Option.map]) ?_
        rw [← hys]
        refine s_app0 (t := .id c3) (l := ys) (by simp only [vm, ite_true, ite_false, eq_self, reduceIte, Nat.reduceEqDiff, Option.map]) (by simp only [vm, ite_true, ite_false, eq_self, reduceIte, Nat.reduceEqDiff, Option.map]) (by omega) (fun e => by rw [e] at hyl; cases hyl) (fun _ => ?_)
        have htL : tL ≠ c3 + 1 := fun e => by have := hc tL _ hL; omega
        have hil2 : i < (ds.map rowOf).length := by rw [List.length_map, hdl]; exact hil
        (repeat (first | refine v_reg ?_ | refine v_last ?_ | refine vwp_seq ?_ | refine vwp_block ?_ | refine vwp_skip ?_ | refine vwp_exit ?_ | refine vwp_ret ?_ | refine v_cond ?_ | simp only [vm, ite_true, ite_false, eq_self, reduceIte, Nat.reduceEqDiff, Option.map, h0, h34, h35, h36, hL, htL, t_cellb, hil2, hyl, e1] | refine And.intro (by omega) ?_))
        have a1 := hR.fresh (t := c3 + 1) (cs := ys.map nv) hdi (by simp [hyl]) (fun u k hk => by have := hc u k hk; omega)
        have a3 : ∀ (j u n n' : Nat) (f : Nat → Nat), ds[j]? = some (some (u, n)) → Holds σ (some (u, n')) f → Holds (supd (supd σ (c3 + 1) (nblk ys)) tL (some ⟨(ds.map rowOf).set i (.buf (c3 + 1) 0 5 none 1), true⟩)) (some (u, n')) f := fun j u n n' f h hf => by
          obtain ⟨q1, _, cells, q3, _⟩ := hR.row j u n h
          have q4 : u ≠ c3 + 1 := fun e => by have := hc u _ q3; omega
          exact (hf.put (fun x e => q4 (by cases e; rfl))).put (fun x e => q1 (by cases e; rfl))
        have a4 : Holds (supd (supd σ (c3 + 1) (nblk ys)) tL (some ⟨(ds.map rowOf).set i (.buf (c3 + 1) 0 5 none 1), true⟩)) (some (c3 + 1, 0 + 5)) (f2 i 0) := fun u n e => by
          cases e
          refine ⟨_, by rw [supd_ne _ _ _ _ (Ne.symm htL), supd_same], fun k hk => ?_⟩
          rw [hyk k (by omega)]
          rfl
        refine ⟨bs.length - (i + 1), by omega, i + 1, rfl, by omega, rfl, ds.set i (some (c3 + 1, 5)), by rw [List.length_set, hdl], a1, fun j hj => ?_, fun j d hj hjd => ?_, ?_⟩
        · by_cases e : j = i
          · subst e
            rw [hrl]
            exact ⟨c3 + 1, by rw [List.getElem?_set_self (by omega)], a4⟩
          · obtain ⟨u, q1, q2⟩ := hA j (by omega)
            exact ⟨u, by rw [List.getElem?_set_ne (Ne.symm e)]; exact q1, a3 j u _ _ _ q1 q2⟩
        · obtain ⟨q1, q2⟩ := hB j d (by omega) hjd
          refine ⟨by rw [List.getElem?_set_ne (by omega)]; exact q1, ?_⟩
          cases d with
          | none => exact Holds.none
          | some q => obtain ⟨u, n⟩ := q; exact a3 j u n n _ q1 q2
        · have hc' : Dom σ (c3 + 1 + 1) := fun u k hk => by have := hc u k hk; omega
          exact (hc'.put (by omega)).put (by have := hc tL _ hL; omega)
      | some q =>
        obtain ⟨t, m⟩ := q
        rw [hd] at hdi hdr hbi hHi
        simp only [rowOf] at hdr
        have hrl : rowLen (bs.getD i none) = m := by rw [List.getD_eq_getElem?_getD, hbi]; rfl
        have hm2 := hsz i t m hbi
        obtain ⟨htL, _, cells, q3, q4⟩ := hR.row i t m hdi
        (repeat (first | refine v_reg ?_ | refine v_last ?_ | refine vwp_seq ?_ | refine vwp_block ?_ | refine vwp_skip ?_ | refine vwp_exit ?_ | refine vwp_ret ?_ | refine v_cond ?_ | simp only [vm, ite_true, ite_false, eq_self, reduceIte, Nat.reduceEqDiff, Option.map, h0, h34, h35, h36, g, hL, d_cells, hdr, e2, m1, m2, m3, m4] | refine And.intro (by omega) ?_))
        refine s_bsl5 (n0 := 300 + 5 * i) (n1 := 300 + 5 * i + 1) (n2 := 300 + 5 * i + 2) (n3 := 300 + 5 * i + 3) (n4 := 300 + 5 * i + 4) (by simp only [vm, ite_true, ite_false, eq_self, reduceIte, Nat.reduceEqDiff, Option.map]) (by simp only [vm, ite_true, ite_false, eq_self, reduceIte, Nat.reduceEqDiff, Option.map]) (by simp only [vm, ite_true, ite_false, eq_self, reduceIte, Nat.reduceEqDiff, Option.map]) (by simp only [vm, ite_true, ite_false, eq_self, reduceIte, Nat.reduceEqDiff, Option.map]) (by simp only [vm, ite_true, ite_false, eq_self, reduceIte, Nat.reduceEqDiff, Option.map]) ?_
        rw [← hys]
        refine s_appmvG (t := t) (n := m) (cap := none) (cs := cells) (u := .id c3) (ys := ys) (by simp only [vm, ite_true, ite_false, eq_self, reduceIte, Nat.reduceEqDiff, Option.map]) q3 (Nat.zero_le _) (by simp only [vm, ite_true, ite_false, eq_self, reduceIte, Nat.reduceEqDiff, Option.map]) q4 (by omega) ?_
        have hil2 : i < ((ds.map rowOf).map (killV t)).length := by rw [List.length_map, List.length_map, hdl]; exact hil
        have hL2 : killσ t σ tL = some ⟨(ds.map rowOf).map (killV t), true⟩ := killσ_at hL
        have hkb : killV t (.buf tL 0 bs.length none 1) = .buf tL 0 bs.length none 1 := killed_buf (Ne.symm htL)
        (repeat (first | refine v_reg ?_ | refine v_last ?_ | refine vwp_seq ?_ | refine vwp_block ?_ | refine vwp_skip ?_ | refine vwp_exit ?_ | refine vwp_ret ?_ | refine v_cond ?_ | simp only [vm, ite_true, ite_false, eq_self, reduceIte, Nat.reduceEqDiff, Option.map, h0, h34, h35, h36, hL2, htL, Ne.symm htL, t_cellb, hil2, hyl, e1, killed_at, killed_lit, hkb] | refine And.intro (by omega) ?_))
        obtain ⟨cs2, hcs2⟩ : ∃ x, x = List.map (killV t) (List.take m cells) ++ List.map nv ys := ⟨_, rfl⟩
        have hcl : m + 5 ≤ cs2.length := by rw [hcs2]; simp [hyl]; omega
        rw [← hcs2]
        have a1 := hR.grow hdi (cs := cs2) (ys := []) hcl (by omega)
        have a3 : ∀ (j u n n' : Nat) (f : Nat → Nat), j ≠ i → ds[j]? = some (some (u, n)) → Holds σ (some (u, n')) f → Holds (supd (supd (killσ t σ) t (some ⟨cs2, true⟩)) tL (some ⟨((ds.map rowOf).map (killV t)).set i (.buf t 0 (m + 5) none 1), true⟩)) (some (u, n')) f := fun j u n n' f hj h hf => by
          obtain ⟨q1, _, cells, q3, _⟩ := hR.row j u n h
          have q4 : u ≠ t := fun e => by subst e; exact hj (hR.inj _ _ _ _ _ h hdi)
          exact ((hf.kill t).put (fun x e => q4 (by cases e; rfl))).put (fun x e => q1 (by cases e; rfl))
        have a4 : Holds (supd (supd (killσ t σ) t (some ⟨cs2, true⟩)) tL (some ⟨((ds.map rowOf).map (killV t)).set i (.buf t 0 (m + 5) none 1), true⟩)) (some (t, m + 5)) (f2 i m) := fun u n e => by
          cases e
          refine ⟨_, by rw [supd_ne _ _ _ _ htL, supd_same], fun k hk => ?_⟩
          obtain ⟨cells', g3, g4⟩ := hHi t m rfl
          obtain rfl : cells' = cells := by rw [q3] at g3; cases g3; rfl
          rw [hcs2]
          by_cases g5 : k < m
          · rw [List.getElem?_append_left (by simp; omega), List.getElem?_map, List.getElem?_take, if_pos g5, g4 k g5]
            unfold f1 f2
            rw [if_pos g5]; rfl
          · rw [List.getElem?_append_right (by simp; omega)]
            have e5 : ((cells'.take m).map (killV t)).length = m := by simp; omega
            rw [e5, hyk (k - m) (by omega)]
            unfold f2
            rw [if_neg g5]
        refine ⟨bs.length - (i + 1), by omega, i + 1, rfl, by omega, rfl, ds.set i (some (t, m + 5)), by rw [List.length_set, hdl], a1, fun j hj => ?_, fun j d hj hjd => ?_, ?_⟩
        · by_cases e : j = i
          · subst e
            rw [hrl]
            exact ⟨t, by rw [List.getElem?_set_self (by omega)], a4⟩
          · obtain ⟨u, q1, q2⟩ := hA j (by omega)
            exact ⟨u, by rw [List.getElem?_set_ne (Ne.symm e)]; exact q1, a3 j u _ _ _ e q1 q2⟩
        · obtain ⟨q1, q2⟩ := hB j d (by omega) hjd
          refine ⟨by rw [List.getElem?_set_ne (by omega)]; exact q1, ?_⟩
          cases d with
          | none => exact Holds.none
          | some q => obtain ⟨u, n⟩ := q; exact a3 j u n n _ (by omega) q1 q2
        · have hc' : Dom (killσ t σ) (c3 + 1) := fun u k hk => by
            obtain ⟨k', hk', _⟩ := Option.map_eq_some_iff.1 hk
            have := hc u k' hk'
            omega
          exact (hc'.put (by have := hc t _ q3; omega)).put (by have := hc tL _ hL; omega)
    · have hin2 : i = bs.length := by omega
      subst hin2
      (repeat (first | refine v_reg ?_ | refine v_last ?_ | refine vwp_seq ?_ | refine vwp_block ?_ | refine vwp_skip ?_ | refine vwp_exit ?_ | refine vwp_ret ?_ | refine v_cond ?_ | simp only [vm, ite_true, ite_false, eq_self, reduceIte, Nat.reduceEqDiff, Option.map, h0, h34, h35, h36, g] | refine And.intro (by omega) ?_))
      exact ⟨ds, hdl, hR, hA, hc⟩
  rintro ⟨ρ3, σ3, c3⟩ ⟨h0, ds, hdl, hR3, hH3, hc3⟩
  dsimp only at h0 hR3 hH3 hc3
  (repeat (first | refine v_reg ?_ | refine v_last ?_ | refine vwp_seq ?_ | refine vwp_block ?_ | refine vwp_skip ?_ | refine vwp_exit ?_ | refine vwp_ret ?_ | refine v_cond ?_ | simp only [vm, ite_true, ite_false, eq_self, reduceIte, Nat.reduceEqDiff, Option.map, h0] | refine And.intro (by omega) ?_))
  refine v_loop (fun S => True) ?_ ?_
  · refine vwp_loop (fun k S => ∃ i, k = bs.length - i ∧ i ≤ bs.length ∧ S.ρ 62 = .buf tL 0 bs.length none 1 ∧ S.ρ 63 = iv (bs.length : Int) ∧ S.ρ 64 = iv (i : Int) ∧ S.σ = σ3) bs.length ?_ ?_
    · exact ⟨0, rfl, Nat.zero_le _, rfl, rfl, rfl, rfl⟩
    rintro k ⟨ρ4, σ, c4⟩ ⟨i, hk, hin, h62, h63, h64, hσ⟩
    dsimp only at h62 h63 h64 hσ
    subst hσ
    by_cases g : (i : Int) < bs.length
    · obtain ⟨t, hdi, hHi⟩ := hH3 i (by omega)
      obtain ⟨m, hm0⟩ : ∃ m, m = rowLen (bs.getD i none) := ⟨_, rfl⟩
      rw [← hm0] at hdi hHi
      obtain ⟨M5, hM5⟩ : ∃ x, x = m + 5 := ⟨_, rfl⟩
      rw [← hM5] at hdi hHi
      have hdr := hR3.len hdi
      simp only [rowOf] at hdr
      have hL := hR3.hd
      obtain ⟨htL, hmb, _⟩ := hR3.row i t M5 hdi
      obtain ⟨cells, q3, q4⟩ := hHi t M5 rfl
      have e1 : (i : Int) + 1 = ((i + 1 : Nat) : Int) := by omega
      (repeat (first | refine v_reg ?_ | refine v_last ?_ | refine vwp_seq ?_ | refine vwp_block ?_ | refine vwp_skip ?_ | refine vwp_exit ?_ | refine vwp_ret ?_ | refine v_cond ?_ | simp only [vm, ite_true, ite_false, eq_self, reduceIte, Nat.reduceEqDiff, Option.map, h62, h63, h64, g, hL, d_cells, hdr] | refine And.intro (by omega) ?_))
      refine vwp_mono (Q := fun e S => e = .exit 8 ∧ S.ρ 62 = .buf tL 0 bs.length none 1 ∧ S.ρ 63 = iv (bs.length : Int) ∧ S.ρ 64 = iv (i : Int) ∧ S.σ = σ) ?_ ?_
      · refine vwp_loop (fun k2 S => ∃ q, k2 = M5 - q ∧ q ≤ M5 ∧ S.ρ 62 = .buf tL 0 bs.length none 1 ∧ S.ρ 63 = iv (bs.length : Int) ∧ S.ρ 64 = iv (i : Int) ∧ S.ρ 9 = iv (i : Int) ∧ S.ρ 10 = .buf t 0 M5 none 1 ∧ S.ρ 69 = .buf t 0 M5 none 1 ∧ S.ρ 70 = iv (M5 : Int) ∧ S.ρ 71 = iv (q : Int) ∧ S.σ = σ) M5 ?_ ?_
        · refine ⟨0, rfl, Nat.zero_le _, ?_⟩
          simp only [vm, ite_true, ite_false, eq_self, reduceIte, Nat.reduceEqDiff, Option.map, h62, h63, h64]
          (repeat' apply And.intro) <;> first | rfl | omega | assumption | exact True.intro
        rintro k2 ⟨ρ5, σ5, c5⟩ ⟨q, hk2, hq, h62, h63, h64, h9, h10, h69, h70, h71, hσ⟩
        dsimp only at h62 h63 h64 h9 h10 h69 h70 h71 hσ
        subst hσ
        have e3 : (q : Int) + 1 = ((q + 1 : Nat) : Int) := by omega
        by_cases g2 : (q : Int) < M5
        · have hv := q4 q (by omega)
          unfold f2 at hv
          by_cases g3 : (q : Int) < (M5 : Int) - 5
          · have g4 : ¬ ((M5 : Int) - 5 ≤ q) := by omega
            rw [if_pos (by omega)] at hv
            have e2 : ((i : Int) % 251 + 1).toNat = i % 251 + 1 := by omega
            (repeat (first | refine v_reg ?_ | refine v_last ?_ | refine vwp_seq ?_ | refine vwp_block ?_ | refine vwp_skip ?_ | refine vwp_exit ?_ | refine vwp_ret ?_ | refine v_cond ?_ | simp only [vm, ite_true, ite_false, eq_self, reduceIte, Nat.reduceEqDiff, Option.map, h62, h63, h64, h9, h10, h69, h70, h71, g2, g3, g4, e2, q3, d_cells, hv, e3] | refine And.intro (by omega) ?_))
            exact ⟨M5 - (q + 1), by omega, q + 1, rfl, by omega, rfl⟩
          · have g4 : (M5 : Int) - 5 ≤ q := by omega
            rw [if_neg (by omega)] at hv
            have e2 : (300 + 5 * (i : Int) + q - M5 + 5).toNat = 300 + 5 * i + (q - m) := by omega
            (repeat (first | refine v_reg ?_ | refine v_last ?_ | refine vwp_seq ?_ | refine vwp_block ?_ | refine vwp_skip ?_ | refine vwp_exit ?_ | refine vwp_ret ?_ | refine v_cond ?_ | simp only [vm, ite_true, ite_false, eq_self, reduceIte, Nat.reduceEqDiff, Option.map, h62, h63, h64, h9, h10, h69, h70, h71, g2, g3, g4, e2, q3, d_cells, hv, e3] | refine And.intro (by omega) ?_))
            exact ⟨M5 - (q + 1), by omega, q + 1, rfl, by omega, rfl⟩
        · (repeat (first | refine v_reg ?_ | refine v_last ?_ | refine vwp_seq ?_ | refine vwp_block ?_ | refine vwp_skip ?_ | refine vwp_exit ?_ | refine vwp_ret ?_ | refine v_cond ?_ | simp only [vm, ite_true, ite_false, eq_self, reduceIte, Nat.reduceEqDiff, Option.map, h62, h63, h64, h9, h10, h69, h70, h71, g2] | refine And.intro (by omega) ?_))
      · rintro _ ⟨ρ5, σ5, c5⟩ ⟨rfl, h62, h63, h64, hσ⟩
        dsimp only at h62 h63 h64 hσ
        subst hσ
        (repeat (first | refine v_reg ?_ | refine v_last ?_ | refine vwp_seq ?_ | refine vwp_block ?_ | refine vwp_skip ?_ | refine vwp_exit ?_ | refine vwp_ret ?_ | refine v_cond ?_ | simp only [vm, ite_true, ite_false, eq_self, reduceIte, Nat.reduceEqDiff, Option.map, h62, h63, h64, e1] | refine And.intro (by omega) ?_))
        refine ⟨bs.length - (i + 1), by omega, i + 1, ?_⟩
        (repeat' apply And.intro) <;> first | rfl | omega | assumption | exact True.intro
    · (repeat (first | refine v_reg ?_ | refine v_last ?_ | refine vwp_seq ?_ | refine vwp_block ?_ | refine vwp_skip ?_ | refine vwp_exit ?_ | refine vwp_ret ?_ | refine v_cond ?_ | simp only [vm, ite_true, ite_false, eq_self, reduceIte, Nat.reduceEqDiff, Option.map, h62, h63, h64, g] | refine And.intro (by omega) ?_))
  rintro ⟨ρ4, σ4, c4⟩ _
  (repeat (first | refine v_reg ?_ | refine v_last ?_ | refine vwp_seq ?_ | refine vwp_block ?_ | refine vwp_skip ?_ | refine vwp_exit ?_ | refine vwp_ret ?_ | refine v_cond ?_ | simp only [vm, ite_true, ite_false, eq_self, reduceIte, Nat.reduceEqDiff, Option.map] | refine And.intro (by omega) ?_))
end Go.Proofs.YtacodmnlnlbahaaGreatDoor
set_option linter.unusedSimpArgs false
set_option linter.unusedVariables false
set_option maxRecDepth 100000
set_option maxHeartbeats 4000000
namespace Go.Proofs.YtacodmnlnlbahaaGreatDoor
open Go.VM

theorem len64_spec (x c : Nat) (hx : x < 18446744073709551616) : VSpec Tryz.prog F.bits_Len64 c [nv x] (fun r _ => r = iv (bl x)) := by
  refine spec_mk hm E.bits_Len64 B.bits_Len64 K.bits_Len64 Q.bits_Len64 (by rw [N.bits_Len64]; simp) ?_
  unfold C.bits_Len64 R.bits_Len64
  refine v_reg ?_
  simp only [vm, ite_true, ite_false, eq_self, reduceIte, Nat.reduceEqDiff, Option.map]
  refine v_cut (fun S => ∃ n y : Nat, S.ρ 0 = nv y ∧ S.ρ 2 = iv n ∧ y < 4294967296 ∧ bl x = n + bl y ∧ n ≤ 32 ∧ S.σ = noBlk ∧ S.c = c) ?_ ?_
  · refine v_reg ?_
    simp only [vm, ite_true, ite_false, eq_self, reduceIte, Nat.reduceEqDiff, Option.map]
    refine v_cond ?_
    simp only [vm, ite_true, ite_false, eq_self, reduceIte, Nat.reduceEqDiff, Option.map]
    refine ⟨fun g => v_reg ?_, fun g => vwp_skip ⟨rfl, 0, x, ?_⟩⟩
    · simp only [vm, ite_true, ite_false, eq_self, reduceIte, Nat.reduceEqDiff, Option.map]
      refine v_last ?_
      simp only [vm, ite_true, ite_false, eq_self, reduceIte, Nat.reduceEqDiff, Option.map]
      exact ⟨32, x / 4294967296, rfl, rfl, by omega, bl_shift (k := 32) g, by omega⟩
    · simp only [vm, ite_true, ite_false, eq_self, reduceIte, Nat.reduceEqDiff, Option.map]
      exact ⟨rfl, by omega, by omega⟩
  rintro ⟨ρ, σ, k⟩ ⟨n, y, h0, h2, hy, hb, hn, rfl, rfl⟩
  dsimp only at h0 h2
  refine v_cut (fun S => ∃ n y : Nat, S.ρ 0 = nv y ∧ S.ρ 2 = iv n ∧ y < 65536 ∧ bl x = n + bl y ∧ n ≤ 48 ∧ S.σ = noBlk ∧ S.c = k) ?_ ?_
  · refine v_reg ?_
    simp only [vm, ite_true, ite_false, eq_self, reduceIte, Nat.reduceEqDiff, Option.map, h0, h2]
    refine v_cond ?_
    simp only [vm, ite_true, ite_false, eq_self, reduceIte, Nat.reduceEqDiff, Option.map]
    refine ⟨fun g => v_reg ?_, fun g => vwp_skip ⟨rfl, n, y, ?_⟩⟩
    · simp only [vm, ite_true, ite_false, eq_self, reduceIte, Nat.reduceEqDiff, Option.map, h0, h2]
      refine v_last ?_
      simp only [vm, ite_true, ite_false, eq_self, reduceIte, Nat.reduceEqDiff, Option.map, h0, h2]
      refine ⟨by omega, n + 16, y / 65536, rfl, rfl, by omega, ?_, by omega⟩
      rw [hb, bl_shift (k := 16) g, Nat.add_assoc]
    · simp only [vm, ite_true, ite_false, eq_self, reduceIte, Nat.reduceEqDiff, Option.map, h0, h2]
      exact ⟨by omega, hb, by omega⟩
  rintro ⟨ρ, σ, k⟩ ⟨n, y, h0, h2, hy, hb, hn, rfl, rfl⟩
  dsimp only at h0 h2
  refine v_cut (fun S => ∃ n y : Nat, S.ρ 0 = nv y ∧ S.ρ 2 = iv n ∧ y < 256 ∧ bl x = n + bl y ∧ n ≤ 56 ∧ S.σ = noBlk ∧ S.c = k) ?_ ?_
  · refine v_reg ?_
    simp only [vm, ite_true, ite_false, eq_self, reduceIte, Nat.reduceEqDiff, Option.map, h0, h2]
    refine v_cond ?_
    simp only [vm, ite_true, ite_false, eq_self, reduceIte, Nat.reduceEqDiff, Option.map]
    refine ⟨fun g => v_reg ?_, fun g => vwp_skip ⟨rfl, n, y, ?_⟩⟩
    · simp only [vm, ite_true, ite_false, eq_self, reduceIte, Nat.reduceEqDiff, Option.map, h0, h2]
      refine v_last ?_
      simp only [vm, ite_true, ite_false, eq_self, reduceIte, Nat.reduceEqDiff, Option.map, h0, h2]
      refine ⟨by omega, n + 8, y / 256, rfl, rfl, by omega, ?_, by omega⟩
      rw [hb, bl_shift (k := 8) g, Nat.add_assoc]
    · simp only [vm, ite_true, ite_false, eq_self, reduceIte, Nat.reduceEqDiff, Option.map, h0, h2]
      exact ⟨by omega, hb, by omega⟩
  rintro ⟨ρ, σ, k⟩ ⟨n, y, h0, h2, hy, hb, hn, rfl, rfl⟩
  dsimp only at h0 h2
  have h8 : bl y ≤ 8 := bl_le hy
  refine v_reg ?_
  simp only [vm, ite_true, ite_false, eq_self, reduceIte, Nat.reduceEqDiff, Option.map, h0, h2, Nat.mod_eq_of_lt hy]
  rw [six_tab (blTab_at (by decide +kernel) hy)]
  simp only [vm, ite_true, ite_false, eq_self, reduceIte, Nat.reduceEqDiff, Option.map, h0, h2, c_8i (n := bl y) (by omega)]
  refine ⟨by omega, vwp_ret ?_⟩
  simp only [vm, ite_true, ite_false, eq_self, reduceIte, Nat.reduceEqDiff, Option.map]
  refine ⟨Nat.le_refl _, ?_⟩
  rw [hb]; rfl

theorem length_spec (t : Tok) (l : List Nat) (c : Nat) (hl : Lim 18446744073709551616 l) (hn : l.length ≤ 4398046511104) : VSpec Tryz.prog F.nat_Length c [nats t l] (fun r _ => r = iv (bl (val 18446744073709551616 l))) := by
  refine spec_mk hm E.nat_Length B.nat_Length K.nat_Length Q.nat_Length (by rw [N.nat_Length]; simp) ?_
  unfold C.nat_Length R.nat_Length
  refine v_reg ?_
  simp only [vm, ite_true, ite_false, eq_self, reduceIte, Nat.reduceEqDiff, Option.map]
  refine v_reg ?_
  simp only [vm, ite_true, ite_false, eq_self, reduceIte, Nat.reduceEqDiff, Option.map]
  refine s_call (trim_spec t l c hl hn) (by simp only [vm, ite_true, ite_false, eq_self, reduceIte, Nat.reduceEqDiff, Option.map, List.map]) ?_
  rintro v c' hc rfl
  have hlen := digs_len_le two64 hl
  simp only [vm, ite_true, ite_false, eq_self, reduceIte, Nat.reduceEqDiff, Option.map]
  refine vwp_seq (v_reg ?_)
  simp only [vm, ite_true, ite_false, eq_self, reduceIte, Nat.reduceEqDiff, Option.map]
  refine v_cond ?_
  simp only [vm, ite_true, ite_false, eq_self, reduceIte, Nat.reduceEqDiff, Option.map]
  refine ⟨fun g => v_reg ?_, fun g => vwp_skip ?_⟩
  · simp only [vm, ite_true, ite_false, eq_self, reduceIte, Nat.reduceEqDiff, Option.map]
    refine vwp_ret ?_
    simp only [vm, ite_true, ite_false, eq_self, reduceIte, Nat.reduceEqDiff, Option.map]
    have e : digs 18446744073709551616 (val 18446744073709551616 l) = [] := List.eq_nil_of_length_eq_zero (by omega)
    rw [(digs_eq_nil two64).1 e]
    exact ⟨hc, rfl⟩
  · simp only [vm, ite_true, ite_false, eq_self, reduceIte, Nat.reduceEqDiff, Option.map]
    obtain ⟨m, x, e⟩ := snoc_of_ne (l := digs 18446744073709551616 (val 18446744073709551616 l)) (fun e => g (by rw [e]; rfl))
    obtain ⟨h1, h2, h3⟩ := bl_digs64 e
    rw [e] at hlen ⊢
    have e1 : ((m ++ [x]).length - 1 : Int).toNat = m.length := by simp
    have e2 : (m ++ [x]).length = m.length + 1 := by simp
    refine v_reg ?_
    simp only [vm, ite_true, ite_false, eq_self, reduceIte, Nat.reduceEqDiff, Option.map, e1, getD_snoc]
    refine ⟨by omega, by omega, by omega, by omega, by omega, ?_⟩
    refine s_call (len64_spec x c' h2) (by simp only [vm, ite_true, ite_false, eq_self, reduceIte, Nat.reduceEqDiff, Option.map, List.map]) ?_
    rintro v c2 hc2 rfl
    have h8 : bl x ≤ 64 := bl_le h2
    simp only [vm, ite_true, ite_false, eq_self, reduceIte, Nat.reduceEqDiff, Option.map]
    refine ⟨by omega, vwp_ret ?_⟩
    simp only [vm, ite_true, ite_false, eq_self, reduceIte, Nat.reduceEqDiff, Option.map]
    refine ⟨by omega, ?_⟩
    congr 2
    omega
end Go.Proofs.YtacodmnlnlbahaaGreatDoor
set_option linter.unusedSimpArgs false
set_option linter.unusedVariables false
set_option maxRecDepth 100000
set_option maxHeartbeats 4000000
namespace Go.Proofs.YtacodmnlnlbahaaGreatDoor
open Go.VM

theorem told_spec (t : Tok) (l : List Nat) (c : Nat) (hl : Lim 18446744073709551616 l) (hn : l.length ≤ 4398046511104) : VSpec Tryz.prog F.nat_told c [nats t l]
    (fun r _ => r = if bl (val 18446744073709551616 l) ≤ 67108864 then .tup [nats t (digs 18446744073709551616 (val 18446744073709551616 l)), iv 0] else .tup [nil1, iv 3]) := by
  refine spec_mk hm E.nat_told B.nat_told K.nat_told Q.nat_told (by rw [N.nat_told]; simp) ?_
  unfold C.nat_told R.nat_told
  have hlen := digs_len_le two64 hl
  refine v_reg ?_
  simp only [vm, ite_true, ite_false, eq_self, reduceIte, Nat.reduceEqDiff, Option.map]
  refine v_reg ?_
  simp only [vm, ite_true, ite_false, eq_self, reduceIte, Nat.reduceEqDiff, Option.map]
  refine s_call (trim_spec t l c hl hn) (by simp only [vm, ite_true, ite_false, eq_self, reduceIte, Nat.reduceEqDiff, Option.map, List.map]) ?_
  rintro v c' hc rfl
  simp only [vm, ite_true, ite_false, eq_self, reduceIte, Nat.reduceEqDiff, Option.map]
  refine vwp_seq (v_reg ?_)
  simp only [vm, ite_true, ite_false, eq_self, reduceIte, Nat.reduceEqDiff, Option.map]
  refine s_call (length_spec t (digs 18446744073709551616 (val 18446744073709551616 l)) c' (lim_digs two64 _) (by omega)) (by simp only [vm, ite_true, ite_false, eq_self, reduceIte, Nat.reduceEqDiff, Option.map, List.map]) ?_
  rintro v c2 hc2 rfl
  simp only [vm, ite_true, ite_false, eq_self, reduceIte, Nat.reduceEqDiff, Option.map, val_digs two64]
  refine v_cond ?_
  simp only [vm, ite_true, ite_false, eq_self, reduceIte, Nat.reduceEqDiff, Option.map]
  refine ⟨fun g => v_reg ?_, fun g => vwp_skip ?_⟩
  · simp only [vm, ite_true, ite_false, eq_self, reduceIte, Nat.reduceEqDiff, Option.map]
    refine vwp_ret ?_
    simp only [vm, ite_true, ite_false, eq_self, reduceIte, Nat.reduceEqDiff, Option.map]
    exact ⟨by omega, by rw [if_neg (by omega)]⟩
  · simp only [vm, ite_true, ite_false, eq_self, reduceIte, Nat.reduceEqDiff, Option.map]
    refine v_reg ?_
    simp only [vm, ite_true, ite_false, eq_self, reduceIte, Nat.reduceEqDiff, Option.map]
    refine vwp_ret ?_
    simp only [vm, ite_true, ite_false, eq_self, reduceIte, Nat.reduceEqDiff, Option.map]
    exact ⟨by omega, by rw [if_pos (by omega)]⟩

def cmpI (a b : Nat) : Int := if a < b then -1 else if a = b then 0 else 1

theorem compare_spec (t u : Tok) (a b : List Nat) (c : Nat) (ha : Lim 18446744073709551616 a) (hb : Lim 18446744073709551616 b) (hna : a.length ≤ 1099511627776) (hnb : b.length ≤ 1099511627776) : VSpec Tryz.prog F.nat_Compare c [nats t a, nats u b] (fun r _ => r = iv (cmpI (val 18446744073709551616 a) (val 18446744073709551616 b))) := by
  refine spec_mk hm E.nat_Compare B.nat_Compare K.nat_Compare Q.nat_Compare (by rw [N.nat_Compare]; simp) ?_
  unfold C.nat_Compare R.nat_Compare
  have hla := digs_len_le two64 ha
  have hlb := digs_len_le two64 hb
  have hda := lim_digs two64 (val 18446744073709551616 a)
  have hdb := lim_digs two64 (val 18446744073709551616 b)
  refine v_reg ?_
  simp only [vm, ite_true, ite_false, eq_self, reduceIte, Nat.reduceEqDiff, Option.map]
  refine v_reg ?_
  simp only [vm, ite_true, ite_false, eq_self, reduceIte, Nat.reduceEqDiff, Option.map]
  refine s_call (trim_spec t a c ha (by omega)) (by simp only [vm, ite_true, ite_false, eq_self, reduceIte, Nat.reduceEqDiff, Option.map, List.map]) ?_
  rintro v c' hc rfl
  simp only [vm, ite_true, ite_false, eq_self, reduceIte, Nat.reduceEqDiff, Option.map]
  refine s_call (trim_spec u b c' hb (by omega)) (by simp only [vm, ite_true, ite_false, eq_self, reduceIte, Nat.reduceEqDiff, Option.map, List.map]) ?_
  rintro v c2 hc2 rfl
  have va := val_digs two64 (val 18446744073709551616 a)
  have vb := val_digs two64 (val 18446744073709551616 b)
  have hlt := lt_of_len two64 (m := val 18446744073709551616 a) (n := val 18446744073709551616 b)
  have hgt := lt_of_len two64 (m := val 18446744073709551616 b) (n := val 18446744073709551616 a)
  generalize digs 18446744073709551616 (val 18446744073709551616 a) = x at *
  generalize digs 18446744073709551616 (val 18446744073709551616 b) = y at *
  generalize val 18446744073709551616 a = m at *
  generalize val 18446744073709551616 b = n at *
  simp only [vm, ite_true, ite_false, eq_self, reduceIte, Nat.reduceEqDiff, Option.map]
  refine vwp_seq (v_reg ?_)
  simp only [vm, ite_true, ite_false, eq_self, reduceIte, Nat.reduceEqDiff, Option.map]
  refine v_cond ?_
  simp only [vm, ite_true, ite_false, eq_self, reduceIte, Nat.reduceEqDiff, Option.map]
  refine ⟨fun g => vwp_seq (v_reg ?_), fun g => vwp_skip ?_⟩
  · simp only [vm, ite_true, ite_false, eq_self, reduceIte, Nat.reduceEqDiff, Option.map]
    refine v_cond ?_
    simp only [vm, ite_true, ite_false, eq_self, reduceIte, Nat.reduceEqDiff, Option.map]
    refine ⟨fun g2 => v_reg ?_, fun g2 => vwp_skip ?_⟩
    · simp only [vm, ite_true, ite_false, eq_self, reduceIte, Nat.reduceEqDiff, Option.map]
      refine vwp_ret ?_
      simp only [vm, ite_true, ite_false, eq_self, reduceIte, Nat.reduceEqDiff, Option.map]
      exact ⟨by omega, by rw [cmpI, if_pos (hlt (by omega))]⟩
    · simp only [vm, ite_true, ite_false, eq_self, reduceIte, Nat.reduceEqDiff, Option.map]
      refine v_reg ?_
      simp only [vm, ite_true, ite_false, eq_self, reduceIte, Nat.reduceEqDiff, Option.map]
      refine vwp_ret ?_
      simp only [vm, ite_true, ite_false, eq_self, reduceIte, Nat.reduceEqDiff, Option.map]
      have := hgt (by omega)
      exact ⟨by omega, by rw [cmpI, if_neg (by omega), if_neg (by omega)]⟩
  · simp only [vm, ite_true, ite_false, eq_self, reduceIte, Nat.reduceEqDiff, Option.map]
    have hxy : x.length = y.length := by omega
    refine vwp_seq (v_reg ?_)
    simp only [vm, ite_true, ite_false, eq_self, reduceIte, Nat.reduceEqDiff, Option.map]
    refine ⟨by omega, vwp_block (vwp_loop (fun k S => S.ρ 0 = nats t x ∧ S.ρ 1 = nats u y ∧ S.ρ 5 = iv ((k : Int) - 1) ∧ k ≤ x.length ∧ val 18446744073709551616 (x.drop k) = val 18446744073709551616 (y.drop k) ∧ S.σ = noBlk ∧ S.c = c2) x.length ⟨rfl, rfl, rfl, Nat.le_refl _, ?_, rfl, rfl⟩ ?_)⟩
    · rw [List.drop_of_length_le (Nat.le_refl _), hxy, List.drop_of_length_le (Nat.le_refl _)]
    rintro k ⟨ρ, σ, c3⟩ ⟨h0, h1, h5, hk, hv, hσ, hc3⟩
    dsimp only at h0 h1 h5 hσ hc3
    subst hσ hc3
    (repeat (first | refine v_reg ?_ | refine v_last ?_ | refine vwp_seq ?_ | refine vwp_block ?_ | refine vwp_skip ?_ | refine vwp_exit ?_ | refine vwp_ret ?_ | refine v_cond ?_)); simp only [vm, ite_true, ite_false, eq_self, reduceIte, Nat.reduceEqDiff, Option.map, h0, h1, h5]
    (repeat (first | refine v_reg ?_ | refine v_last ?_ | refine vwp_seq ?_ | refine vwp_block ?_ | refine vwp_skip ?_ | refine vwp_exit ?_ | refine vwp_ret ?_ | refine v_cond ?_)); simp only [vm, ite_true, ite_false, eq_self, reduceIte, Nat.reduceEqDiff, Option.map]
    refine ⟨fun g3 => ?_, fun g3 => ?_⟩
    · (repeat (first | refine v_reg ?_ | refine v_last ?_ | refine vwp_seq ?_ | refine vwp_block ?_ | refine vwp_skip ?_ | refine vwp_exit ?_ | refine vwp_ret ?_ | refine v_cond ?_)); simp only [vm, ite_true, ite_false, eq_self, reduceIte, Nat.reduceEqDiff, Option.map]
      obtain ⟨i, rfl⟩ : ∃ i, k = i + 1 := ⟨k - 1, by omega⟩
      have e1 : (((i + 1 : Nat) : Int) - 1).toNat = i := by omega
      (repeat (first | refine v_reg ?_ | refine v_last ?_ | refine vwp_seq ?_ | refine vwp_block ?_ | refine vwp_skip ?_ | refine vwp_exit ?_ | refine vwp_ret ?_ | refine v_cond ?_)); simp only [vm, ite_true, ite_false, eq_self, reduceIte, Nat.reduceEqDiff, Option.map, h0, h1, h5, e1]
      refine ⟨by omega, by omega, by omega, by omega, ?_⟩
      (repeat (first | refine v_reg ?_ | refine v_last ?_ | refine vwp_seq ?_ | refine vwp_block ?_ | refine vwp_skip ?_ | refine vwp_exit ?_ | refine vwp_ret ?_ | refine v_cond ?_)); simp only [vm, ite_true, ite_false, eq_self, reduceIte, Nat.reduceEqDiff, Option.map]
      refine ⟨fun g4 => ?_, fun g4 => ?_⟩
      · (repeat (first | refine v_reg ?_ | refine v_last ?_ | refine vwp_seq ?_ | refine vwp_block ?_ | refine vwp_skip ?_ | refine vwp_exit ?_ | refine vwp_ret ?_ | refine v_cond ?_)); simp only [vm, ite_true, ite_false, eq_self, reduceIte, Nat.reduceEqDiff, Option.map]
        (repeat (first | refine v_reg ?_ | refine v_last ?_ | refine vwp_seq ?_ | refine vwp_block ?_ | refine vwp_skip ?_ | refine vwp_exit ?_ | refine vwp_ret ?_ | refine v_cond ?_)); simp only [vm, ite_true, ite_false, eq_self, reduceIte, Nat.reduceEqDiff, Option.map]
        have := val_lt_of_top two64 hda hdb (i := i) (by omega) (by omega) hxy hv g4
        exact ⟨by omega, by rw [cmpI, if_pos (by omega)]⟩
      · (repeat (first | refine v_reg ?_ | refine v_last ?_ | refine vwp_seq ?_ | refine vwp_block ?_ | refine vwp_skip ?_ | refine vwp_exit ?_ | refine vwp_ret ?_ | refine v_cond ?_)); simp only [vm, ite_true, ite_false, eq_self, reduceIte, Nat.reduceEqDiff, Option.map]
        (repeat (first | refine v_reg ?_ | refine v_last ?_ | refine vwp_seq ?_ | refine vwp_block ?_ | refine vwp_skip ?_ | refine vwp_exit ?_ | refine vwp_ret ?_ | refine v_cond ?_)); simp only [vm, ite_true, ite_false, eq_self, reduceIte, Nat.reduceEqDiff, Option.map, h0, h1, h5, e1]
        refine ⟨by omega, by omega, by omega, by omega, ?_⟩
        (repeat (first | refine v_reg ?_ | refine v_last ?_ | refine vwp_seq ?_ | refine vwp_block ?_ | refine vwp_skip ?_ | refine vwp_exit ?_ | refine vwp_ret ?_ | refine v_cond ?_)); simp only [vm, ite_true, ite_false, eq_self, reduceIte, Nat.reduceEqDiff, Option.map]
        refine ⟨fun g5 => ?_, fun g5 => ?_⟩
        · (repeat (first | refine v_reg ?_ | refine v_last ?_ | refine vwp_seq ?_ | refine vwp_block ?_ | refine vwp_skip ?_ | refine vwp_exit ?_ | refine vwp_ret ?_ | refine v_cond ?_)); simp only [vm, ite_true, ite_false, eq_self, reduceIte, Nat.reduceEqDiff, Option.map]
          (repeat (first | refine v_reg ?_ | refine v_last ?_ | refine vwp_seq ?_ | refine vwp_block ?_ | refine vwp_skip ?_ | refine vwp_exit ?_ | refine vwp_ret ?_ | refine v_cond ?_)); simp only [vm, ite_true, ite_false, eq_self, reduceIte, Nat.reduceEqDiff, Option.map]
          have := val_lt_of_top two64 hdb hda (i := i) (by omega) (by omega) hxy.symm hv.symm g5
          exact ⟨by omega, by rw [cmpI, if_neg (by omega), if_neg (by omega)]⟩
        · (repeat (first | refine v_reg ?_ | refine v_last ?_ | refine vwp_seq ?_ | refine vwp_block ?_ | refine vwp_skip ?_ | refine vwp_exit ?_ | refine vwp_ret ?_ | refine v_cond ?_)); simp only [vm, ite_true, ite_false, eq_self, reduceIte, Nat.reduceEqDiff, Option.map]
          (repeat (first | refine v_reg ?_ | refine v_last ?_ | refine vwp_seq ?_ | refine vwp_block ?_ | refine vwp_skip ?_ | refine vwp_exit ?_ | refine vwp_ret ?_ | refine v_cond ?_)); simp only [vm, ite_true, ite_false, eq_self, reduceIte, Nat.reduceEqDiff, Option.map, h0, h1, h5]
          refine ⟨by omega, i, by omega, congrArg iv (by omega), by omega, ?_⟩
          rw [val_drop (l := x) (i := i) (by omega), val_drop (l := y) (i := i) (by omega), hv, show x.getD i 0 = y.getD i 0 by omega]
    · (repeat (first | refine v_reg ?_ | refine v_last ?_ | refine vwp_seq ?_ | refine vwp_block ?_ | refine vwp_skip ?_ | refine vwp_exit ?_ | refine vwp_ret ?_ | refine v_cond ?_)); simp only [vm, ite_true, ite_false, eq_self, reduceIte, Nat.reduceEqDiff, Option.map]
      (repeat (first | refine v_reg ?_ | refine v_last ?_ | refine vwp_seq ?_ | refine vwp_block ?_ | refine vwp_skip ?_ | refine vwp_exit ?_ | refine vwp_ret ?_ | refine v_cond ?_)); simp only [vm, ite_true, ite_false, eq_self, reduceIte, Nat.reduceEqDiff, Option.map]
      (repeat (first | refine v_reg ?_ | refine v_last ?_ | refine vwp_seq ?_ | refine vwp_block ?_ | refine vwp_skip ?_ | refine vwp_exit ?_ | refine vwp_ret ?_ | refine v_cond ?_)); simp only [vm, ite_true, ite_false, eq_self, reduceIte, Nat.reduceEqDiff, Option.map]
      have hk0 : k = 0 := by omega
      subst hk0
      rw [List.drop_zero, List.drop_zero] at hv
      exact ⟨by omega, by rw [cmpI, if_neg (by omega), if_pos (by omega)]⟩
end Go.Proofs.YtacodmnlnlbahaaGreatDoor
set_option linter.unusedSimpArgs false
set_option linter.unusedVariables false
set_option maxRecDepth 100000
set_option maxHeartbeats 4000000
namespace Go.Proofs.YtacodmnlnlbahaaGreatDoor
open Go.VM

def Told (c c' n : Nat) (v : V) : Prop := (bl n ≤ 67108864 ∧ ∃ t, v = .tup [nats t (digs 18446744073709551616 n), iv 0] ∧ Tk c c' t) ∨ (67108864 < bl n ∧ v = .tup [nil1, iv 3])

end Go.Proofs.YtacodmnlnlbahaaGreatDoor
set_option linter.unusedSimpArgs false
set_option linter.unusedVariables false
set_option maxRecDepth 100000
set_option maxHeartbeats 4000000
namespace Go.Proofs.YtacodmnlnlbahaaGreatDoor
open Go.VM

end Go.Proofs.YtacodmnlnlbahaaGreatDoor
set_option linter.unusedSimpArgs false
set_option linter.unusedVariables false
set_option maxRecDepth 100000
set_option maxHeartbeats 4000000
namespace Go.Proofs.YtacodmnlnlbahaaGreatDoor
open Go.VM

end Go.Proofs.YtacodmnlnlbahaaGreatDoor
set_option linter.unusedSimpArgs false
set_option linter.unusedVariables false
set_option maxRecDepth 100000
set_option maxHeartbeats 4000000
namespace Go.Proofs.YtacodmnlnlbahaaGreatDoor
open Go.VM

end Go.Proofs.YtacodmnlnlbahaaGreatDoor
set_option linter.unusedSimpArgs false
set_option linter.unusedVariables false
set_option maxRecDepth 100000
set_option maxHeartbeats 4000000
namespace Go.Proofs.YtacodmnlnlbahaaGreatDoor
open Go.VM

theorem left_spec (t : Tok) (a : List Nat) (n c : Nat) (ha : Lim 18446744073709551616 a) (hn : n ≤ 1099511627776) (hna : a.length ≤ 1099511627776) :
    VSpec Tryz.prog F.nat_Left c [nats t a, iv n] (fun r c' => Told c c' (val 18446744073709551616 a * 2 ^ n) r) := by
  refine spec_mk hm E.nat_Left B.nat_Left K.nat_Left Q.nat_Left (by rw [N.nat_Left]; simp) ?_
  unfold C.nat_Left R.nat_Left
  have hla := digs_len_le two64 ha
  have g1 : ¬ (n : Int) < 0 := by omega
  have g2 : ¬ (1099511627776 : Int) < n := by omega
  (repeat (first | refine v_reg ?_ | refine v_last ?_ | refine vwp_seq ?_ | refine vwp_block ?_ | refine vwp_skip ?_ | refine vwp_exit ?_ | refine vwp_ret ?_ | refine v_cond ?_ | simp only [vm, ite_true, ite_false, eq_self, reduceIte, Nat.reduceEqDiff, Option.map, g1, g2] | refine And.intro (by omega) ?_))
  refine s_call (trim_spec t a c ha (by omega)) (by simp only [vm, ite_true, ite_false, eq_self, reduceIte, Nat.reduceEqDiff, Option.map, List.map]) ?_
  rintro v c2 hc2 rfl
  have hx := lim_digs two64 (val 18446744073709551616 a)
  have va := val_digs two64 (val 18446744073709551616 a)
  have hz := digs_eq_nil two64 (n := val 18446744073709551616 a)
  generalize digs 18446744073709551616 (val 18446744073709551616 a) = x at *
  by_cases hx0 : x = []
  · have g3 : (x.length : Int) = 0 := by rw [hx0]; rfl
    (repeat (first | refine v_reg ?_ | refine v_last ?_ | refine vwp_seq ?_ | refine vwp_block ?_ | refine vwp_skip ?_ | refine vwp_exit ?_ | refine vwp_ret ?_ | refine v_cond ?_ | simp only [vm, ite_true, ite_false, eq_self, reduceIte, Nat.reduceEqDiff, Option.map, g1, g2, g3] | refine And.intro (by omega) ?_))
    have := hz.1 hx0
    rw [this, Nat.zero_mul]
    exact .inl ⟨by decide, .nil, rfl, .inl rfl⟩
  have hpos : 0 < val 18446744073709551616 a := by
    rcases Nat.eq_zero_or_pos (val 18446744073709551616 a) with h | h
    · exact absurd (hz.2 h) hx0
    · exact h
  have hxl : 0 < x.length := List.length_pos_iff.2 hx0
  have g3 : ¬ (x.length : Int) = 0 := by omega
  (repeat (first | refine v_reg ?_ | refine v_last ?_ | refine vwp_seq ?_ | refine vwp_block ?_ | refine vwp_skip ?_ | refine vwp_exit ?_ | refine vwp_ret ?_ | refine v_cond ?_ | simp only [vm, ite_true, ite_false, eq_self, reduceIte, Nat.reduceEqDiff, Option.map, g1, g2, g3] | refine And.intro (by omega) ?_))
  refine s_call (length_spec t x c2 hx (by omega)) (by simp only [vm, ite_true, ite_false, eq_self, reduceIte, Nat.reduceEqDiff, Option.map, List.map]) ?_
  rintro v c3 hc3 rfl
  rw [va]
  have hbl : bl (val 18446744073709551616 a) ≤ 64 * x.length := by
    refine bl_le ?_
    have := val_lt hx
    rw [va, pow64] at this
    exact this
  have hmul := bl_mul_pow (n := n) hpos
  by_cases g4 : (67108864 : Int) < (bl (val 18446744073709551616 a) : Int) + n
  · (repeat (first | refine v_reg ?_ | refine v_last ?_ | refine vwp_seq ?_ | refine vwp_block ?_ | refine vwp_skip ?_ | refine vwp_exit ?_ | refine vwp_ret ?_ | refine v_cond ?_ | simp only [vm, ite_true, ite_false, eq_self, reduceIte, Nat.reduceEqDiff, Option.map, g4] | refine And.intro (by omega) ?_))
    exact .inr ⟨by omega, rfl⟩
  have hns : ((n : Int) % 64).toNat = n % 64 := by omega
  have hnw : (n : Int) / 64 = ((n / 64 : Nat) : Int) := by omega
  (repeat (first | refine v_reg ?_ | refine v_last ?_ | refine vwp_seq ?_ | refine vwp_block ?_ | refine vwp_skip ?_ | refine vwp_exit ?_ | refine vwp_ret ?_ | refine v_cond ?_ | simp only [vm, ite_true, ite_false, eq_self, reduceIte, Nat.reduceEqDiff, Option.map, g4, hns, hnw] | refine And.intro (by omega) ?_))
  refine s_mk (n := n / 64 + x.length + 1) (m := n / 64 + x.length + 1) (by simp only [vm, ite_true, ite_false, eq_self, reduceIte, Nat.reduceEqDiff, Option.map]; rfl) (by simp only [vm, ite_true, ite_false, eq_self, reduceIte, Nat.reduceEqDiff, Option.map]; rfl) (Nat.le_refl _) (by omega) ?_
  have hs : n % 64 < 64 := Nat.mod_lt _ (by decide)
  have hpow : val 18446744073709551616 x * 2 ^ n = 18446744073709551616 ^ (n / 64) * (val 18446744073709551616 x * 2 ^ (n % 64)) := by
    rw [pow64, Nat.mul_left_comm, ← Nat.pow_add, show 64 * (n / 64) + n % 64 = n by omega]
  generalize n / 64 = wd at *
  generalize n % 64 = s at *
  (repeat (first | refine v_reg ?_ | refine v_last ?_ | refine vwp_seq ?_ | refine vwp_block ?_ | refine vwp_skip ?_ | refine vwp_exit ?_ | refine vwp_ret ?_ | refine v_cond ?_ | simp only [vm, ite_true, ite_false, eq_self, reduceIte, Nat.reduceEqDiff, Option.map] | refine And.intro (by omega) ?_))
  refine v_loop (fun S => ∃ w, w.length = wd + x.length + 1 ∧ Lim 18446744073709551616 w ∧ val 18446744073709551616 w = val 18446744073709551616 x * 2 ^ n ∧ S.ρ 8 = .buf c3 0 (wd + x.length + 1) (some (wd + x.length + 1)) 1 ∧ S.σ = supd noBlk c3 (nblk w) ∧ c3 + 1 ≤ S.c) ?_ ?_
  · refine vwp_loop (fun k S => ∃ i w top, k = x.length - i ∧ i ≤ x.length ∧ w.length = i ∧ Lim 18446744073709551616 w ∧ top < 2 ^ s ∧ val 18446744073709551616 (w ++ [top]) = val 18446744073709551616 (x.take i) * 2 ^ s ∧ S.ρ 38 = nats t x ∧ S.ρ 6 = iv wd ∧ S.ρ 7 = nv s ∧ S.ρ 39 = iv x.length ∧ S.ρ 40 = iv i ∧ S.ρ 8 = .buf c3 0 (wd + x.length + 1) (some (wd + x.length + 1)) 1 ∧ S.σ = supd noBlk c3 (nblk ((List.replicate wd 0 ++ w) ++ top :: List.replicate (x.length - i) 0)) ∧ c3 + 1 ≤ S.c) x.length ?_ ?_
    · refine ⟨0, [], 0, by omega, by omega, ?_⟩
      simp only [vm, ite_true, ite_false, eq_self, reduceIte, Nat.reduceEqDiff, Option.map]
      have e0 : List.replicate (wd + x.length + 1) 0 = (List.replicate wd 0 ++ []) ++ 0 :: List.replicate (x.length - 0) 0 := by
        rw [List.append_nil, Nat.sub_zero, Nat.add_assoc, ← List.replicate_append_replicate, List.replicate_succ]
      (repeat' apply And.intro) <;> first | rfl | omega | assumption | exact Lim.nil | exact Nat.two_pow_pos s | (simp [val]; done) | (rw [e0])
    rintro k ⟨ρ2, σ, c4⟩ ⟨i, w, top, hk, hi, hw, hlw, ht, hinv, h38, h6, h7, h39, h40, h8, hσ, hc4⟩
    dsimp only at h38 h6 h7 h39 h40 h8 hσ hc4
    subst hσ
    by_cases g : (i : Int) < x.length
    · have hi' : i < x.length := by omega
      have hxi := hx.getD (i := i) (by decide)
      obtain ⟨p1, p2, p3⟩ := shl_parts hs hxi
      obtain ⟨o1, o2⟩ := or_top hs hxi ht
      have hlo := Nat.mod_lt (x.getD i 0 * 2 ^ s) (show 0 < 18446744073709551616 by decide)
      have e1 : ((wd : Int) + (i : Int)).toNat = wd + i := by omega
      have e2 : ((wd : Int) + (i : Int) + 1).toNat = wd + i + 1 := by omega
      have e3 : min s 64 = s := by omega
      have e4 : (63 + (18446744073709551616 - s % 18446744073709551616)) % 18446744073709551616 = 63 - s := by omega
      have e5 : min (63 - s) 64 = 63 - s := by omega
      have hps : 2 ^ s ≤ 18446744073709551616 := Nat.le_trans (Nat.pow_le_pow_right (by decide) (show s ≤ 64 by omega)) (by decide)
      have e6 : top % 18446744073709551616 = top := Nat.mod_eq_of_lt (by omega)
      have e7 : x.getD i 0 / 2 / 2 ^ (63 - s) % 18446744073709551616 = x.getD i 0 / 2 / 2 ^ (63 - s) := Nat.mod_eq_of_lt (by omega)
      have hl1 : (List.replicate wd 0 ++ w).length = wd + i := by simp; omega
      have hget1 : ((List.replicate wd 0 ++ w) ++ top :: List.replicate (x.length - i) 0).getD (wd + i) 0 = top := by
        rw [← hl1]; exact getD_at _ _ _
      have hlen1 : ((List.replicate wd 0 ++ w) ++ top :: List.replicate (x.length - i) 0).length = wd + x.length + 1 := by simp; omega
      have hset1 : ∀ v, ((List.replicate wd 0 ++ w) ++ top :: List.replicate (x.length - i) 0).set (wd + i) v = ((List.replicate wd 0 ++ w) ++ [v]) ++ 0 :: List.replicate (x.length - (i + 1)) 0 := fun v => by
        rw [← hl1, set_at, show x.length - i = x.length - (i + 1) + 1 by omega, List.replicate_succ]; simp
      have hl2 : ∀ v, ((List.replicate wd 0 ++ w) ++ [v]).length = wd + i + 1 := fun v => by simp; omega
      have hget2 : ∀ v, (((List.replicate wd 0 ++ w) ++ [v]) ++ 0 :: List.replicate (x.length - (i + 1)) 0).getD (wd + i + 1) 0 = 0 := fun v => by
        rw [← hl2 v]; exact getD_at _ _ _
      have hlen2 : ∀ v, (((List.replicate wd 0 ++ w) ++ [v]) ++ 0 :: List.replicate (x.length - (i + 1)) 0).length = wd + x.length + 1 := fun v => by simp; omega
      have hset2 : ∀ v u, (((List.replicate wd 0 ++ w) ++ [v]) ++ 0 :: List.replicate (x.length - (i + 1)) 0).set (wd + i + 1) u = (List.replicate wd 0 ++ (w ++ [v])) ++ u :: List.replicate (x.length - (i + 1)) 0 := fun v u => by
        rw [← hl2 v, set_at, List.append_assoc (List.replicate wd 0)]
      have key := shl_step (i := i) hw hinv p1
      rw [← Nat.mul_assoc, ← Nat.add_mul, ← val_take (l := x) (i := i) hi'] at key
      (repeat (first | refine v_reg ?_ | refine v_last ?_ | refine vwp_seq ?_ | refine vwp_block ?_ | refine vwp_skip ?_ | refine vwp_exit ?_ | refine vwp_ret ?_ | refine v_cond ?_ | simp only [vm, ite_true, ite_false, eq_self, reduceIte, Nat.reduceEqDiff, Option.map, h38, h6, h7, h39, h40, h8, g, e1, e2, e3, e4, e5, hget1, hlen1, hset1, u_or, e6, Nat.mod_mod, o1, hget2, hlen2, hset2, e7, Nat.zero_mod, Nat.zero_or] | refine And.intro (by omega) ?_))
      refine ⟨x.length - (i + 1), by omega, i + 1, w ++ [top + x.getD i 0 * 2 ^ s % 18446744073709551616], x.getD i 0 / 2 / 2 ^ (63 - s), ?_⟩
      (repeat' apply And.intro) <;> first | rfl | omega | assumption | (simp [hw]; done) | exact lim_snoc hlw o2 | exact key
    · have hi' : i = x.length := by omega
      subst hi'
      (repeat (first | refine v_reg ?_ | refine v_last ?_ | refine vwp_seq ?_ | refine vwp_block ?_ | refine vwp_skip ?_ | refine vwp_exit ?_ | refine vwp_ret ?_ | refine v_cond ?_ | simp only [vm, ite_true, ite_false, eq_self, reduceIte, Nat.reduceEqDiff, Option.map, h38, h6, h7, h39, h40, h8, g] | refine And.intro (by omega) ?_))
      rw [List.take_length] at hinv
      have hps : 2 ^ s ≤ 18446744073709551616 := Nat.le_trans (Nat.pow_le_pow_right (by decide) (show s ≤ 64 by omega)) (by decide)
      refine ⟨(List.replicate wd 0 ++ w) ++ [top], ?_⟩
      have e0 : (List.replicate wd 0 ++ w) ++ top :: List.replicate (x.length - x.length) 0 = (List.replicate wd 0 ++ w) ++ [top] := by simp
      rw [e0]
      have hvv : val 18446744073709551616 ((List.replicate wd 0 ++ w) ++ [top]) = val 18446744073709551616 x * 2 ^ n := by
        rw [List.append_assoc, val_zeros, hinv, hpow]
      (repeat' apply And.intro) <;> first | rfl | omega | assumption | (simp [hw]; omega) | exact (Lim.append (Lim.append (Lim.replicate (by decide)) hlw) (.cons (by omega) .nil)) | exact hvv
  rintro ⟨ρ3, σ, c5⟩ ⟨w, hw, hlw, hvw, h8, hσ, hc5⟩
  dsimp only at h8 hσ hc5
  subst hσ
  refine v_freeze 8 (t := c3) (off := 0) (n := wd + x.length + 1) (cap := some (wd + x.length + 1)) (l := w) (by simp only [vm, ite_true, ite_false, eq_self, reduceIte, Nat.reduceEqDiff, Option.map, h8]) (by simp only [vm, ite_true, ite_false, eq_self, reduceIte, Nat.reduceEqDiff, Option.map]) (by omega) (by omega) ?_
  rw [List.drop_zero, show w.take (wd + x.length + 1) = w from List.take_of_length_le (by omega)]
  (repeat (first | refine v_reg ?_ | refine v_last ?_ | refine vwp_seq ?_ | refine vwp_block ?_ | refine vwp_skip ?_ | refine vwp_exit ?_ | refine vwp_ret ?_ | refine v_cond ?_ | simp only [vm, ite_true, ite_false, eq_self, reduceIte, Nat.reduceEqDiff, Option.map] | refine And.intro (by omega) ?_))
  refine s_call (trim_spec (.id c3) w c5 hlw (by omega)) (by simp only [vm, ite_true, ite_false, eq_self, reduceIte, Nat.reduceEqDiff, Option.map, List.map]) ?_
  rintro v c6 hc6 rfl
  rw [hvw, va]
  (repeat (first | refine v_reg ?_ | refine v_last ?_ | refine vwp_seq ?_ | refine vwp_block ?_ | refine vwp_skip ?_ | refine vwp_exit ?_ | refine vwp_ret ?_ | refine v_cond ?_ | simp only [vm, ite_true, ite_false, eq_self, reduceIte, Nat.reduceEqDiff, Option.map] | refine And.intro (by omega) ?_))
  exact .inl ⟨by omega, .id c3, rfl, .inr ⟨c3, rfl, by omega, by omega⟩⟩
end Go.Proofs.YtacodmnlnlbahaaGreatDoor
set_option linter.unusedSimpArgs false
set_option linter.unusedVariables false
set_option maxRecDepth 100000
set_option maxHeartbeats 4000000
namespace Go.Proofs.YtacodmnlnlbahaaGreatDoor
open Go.VM

end Go.Proofs.YtacodmnlnlbahaaGreatDoor
set_option linter.unusedSimpArgs false
set_option linter.unusedVariables false
set_option maxRecDepth 100000
set_option maxHeartbeats 4000000
namespace Go.Proofs.YtacodmnlnlbahaaGreatDoor
open Go.VM

end Go.Proofs.YtacodmnlnlbahaaGreatDoor
set_option linter.unusedSimpArgs false
set_option linter.unusedVariables false
set_option maxRecDepth 100000
set_option maxHeartbeats 4000000
namespace Go.Proofs.YtacodmnlnlbahaaGreatDoor
open Go.VM

end Go.Proofs.YtacodmnlnlbahaaGreatDoor
set_option linter.unusedSimpArgs false
set_option linter.unusedVariables false
set_option maxRecDepth 100000
set_option maxHeartbeats 4000000
namespace Go.Proofs.YtacodmnlnlbahaaGreatDoor
open Go.VM

end Go.Proofs.YtacodmnlnlbahaaGreatDoor
set_option linter.unusedSimpArgs false
set_option linter.unusedVariables false
set_option maxRecDepth 100000
set_option maxHeartbeats 4000000
namespace Go.Proofs.YtacodmnlnlbahaaGreatDoor
open Go.VM

end Go.Proofs.YtacodmnlnlbahaaGreatDoor
set_option linter.unusedSimpArgs false
set_option linter.unusedVariables false
set_option maxRecDepth 100000
set_option maxHeartbeats 4000000
namespace Go.Proofs.YtacodmnlnlbahaaGreatDoor
open Go.VM

end Go.Proofs.YtacodmnlnlbahaaGreatDoor
set_option linter.unusedSimpArgs false
set_option linter.unusedVariables false
set_option maxRecDepth 100000
set_option maxHeartbeats 4000000
namespace Go.Proofs.YtacodmnlnlbahaaGreatDoor
open Go.VM

end Go.Proofs.YtacodmnlnlbahaaGreatDoor
set_option linter.unusedSimpArgs false
set_option linter.unusedVariables false
set_option maxRecDepth 100000
set_option maxHeartbeats 4000000
namespace Go.Proofs.YtacodmnlnlbahaaGreatDoor
open Go.VM

end Go.Proofs.YtacodmnlnlbahaaGreatDoor
set_option linter.unusedSimpArgs false
set_option linter.unusedVariables false
set_option maxRecDepth 100000
set_option maxHeartbeats 4000000
namespace Go.Proofs.YtacodmnlnlbahaaGreatDoor
open Go.VM

end Go.Proofs.YtacodmnlnlbahaaGreatDoor
set_option linter.unusedVariables false
set_option maxRecDepth 20000
namespace Go.VM
section
variable {B m T lowU W lowV U V q : Nat}
end
end Go.VM
namespace Go.VM
end Go.VM
namespace Go.VM
end Go.VM
namespace Go.VM
end Go.VM
namespace Go.VM
end Go.VM
set_option linter.unusedSimpArgs false
set_option linter.unusedVariables false
set_option maxRecDepth 100000
set_option maxHeartbeats 8000000
namespace Go.Proofs.YtacodmnlnlbahaaGreatDoor
open Go.VM

end Go.Proofs.YtacodmnlnlbahaaGreatDoor
set_option linter.unusedSimpArgs false
set_option linter.unusedVariables false
set_option maxRecDepth 100000
set_option maxHeartbeats 8000000
namespace Go.Proofs.YtacodmnlnlbahaaGreatDoor
open Go.VM

def Kn (c : Nat) (t : Tok) : Prop := t = .nil ∨ ∃ i, (t = .id i ∨ t = .sub i) ∧ i < c
theorem Kn.thaw {c t : Nat} {tk : Tok} (h : Kn c tk) (hc : c ≤ t) (l : List Nat) : V.thaw t (nats tk l) = nats tk l := by
  rcases h with rfl | ⟨i, rfl | rfl, hi⟩
  · exact thaw_nil t l
  · exact thaw_id (by omega) l
  · exact thaw_sub (by omega) l
theorem Kn.mono {c d : Nat} {t : Tok} (h : Kn c t) (hc : c ≤ d) : Kn d t := by
  rcases h with rfl | ⟨i, h, hi⟩
  · exact .inl rfl
  · exact .inr ⟨i, h, by omega⟩
end Go.Proofs.YtacodmnlnlbahaaGreatDoor
set_option linter.unusedVariables false
namespace Go.VM
def IsRoot (A k r : Nat) : Prop := r ^ k ≤ A ∧ A < (r + 1) ^ k
end Go.VM
set_option linter.unusedSimpArgs false
set_option linter.unusedVariables false
set_option maxRecDepth 100000
set_option maxHeartbeats 8000000
namespace Go.Proofs.YtacodmnlnlbahaaGreatDoor
open Go.VM

def RootR (c c' A0 k : Nat) (r : V) : Prop := (bl A0 ≤ 67108864 ∧ ∃ x t1 t2, IsRoot A0 k x ∧ r = .tup [nats t1 (digs 18446744073709551616 x), nats t2 (digs 18446744073709551616 (A0 - x ^ k)), iv 0] ∧ Tk c c' t1 ∧ Tk c c' t2) ∨ (67108864 < bl A0 ∧ r = .tup [nil1, nil1, iv 3])

def Apt (t u : Tok) : Prop := ∀ i, t = .id i → u = .id i → False
theorem Apt.nil {t : Tok} : Apt t .nil := fun i _ h => by cases h
theorem Apt.of {a b c d : Nat} {t u : Tok} (ht : Tk a b t) (hu : Tk c d u) (h : b ≤ c) : Apt t u := fun i e e' => by
  rcases ht with rfl | ⟨j, rfl, h1, h2⟩
  · cases e
  · rcases hu with rfl | ⟨k, rfl, h3, h4⟩
    · cases e'
    · cases e; cases e'; omega
def RootS (c c' A0 k : Nat) (r : V) : Prop := (bl A0 ≤ 67108864 ∧ ∃ x t1 t2, IsRoot A0 k x ∧ r = .tup [nats t1 (digs 18446744073709551616 x), nats t2 (digs 18446744073709551616 (A0 - x ^ k)), iv 0] ∧ Tk c c' t1 ∧ Tk c c' t2 ∧ Apt t1 t2) ∨ (67108864 < bl A0 ∧ r = .tup [nil1, nil1, iv 3])
theorem RootS.R {c c' A0 k : Nat} {r : V} (h : RootS c c' A0 k r) : RootR c c' A0 k r := by
  rcases h with ⟨hb, x, t1, t2, hx, hr, h1, h2, _⟩ | h
  · exact .inl ⟨hb, x, t1, t2, hx, hr, h1, h2⟩
  · exact .inr h

end Go.Proofs.YtacodmnlnlbahaaGreatDoor
set_option linter.unusedSimpArgs false
set_option linter.unusedVariables false
set_option maxRecDepth 100000
set_option maxHeartbeats 8000000
namespace Go.Proofs.YtacodmnlnlbahaaGreatDoor
open Go.VM
theorem two32 : 2 ≤ 4294967296 := by decide

section
variable {P : Program} {dr : Bool} {c0 : Nat} {ρ : Nat → V} {σ : Nat → Option Blk} {c i : Nat} {r : List VO} {K : VS → Prop}
theorem s_bsl2 {x y : X} {n m : Nat} (h : x.ev ρ = nv n) (h' : y.ev ρ = nv m) (hk : wps P dr c0 r ⟨upd ρ i (nats (.id c) [n, m]), σ, c + 1⟩ K) : wps P dr c0 (⟨some i, .bsl true 1 2 [.int .u64 0] [(0, (1, x)), (1, (1, y))], none⟩ :: r) ⟨ρ, σ, c⟩ K := by
  refine s_eff rfl (by intros; exact fun h => by cases h) (by intros; exact fun h => by cases h) ⟨_, _, _, none, .bsl (cs := [nv n, nv m]) ?_, hk⟩
  simp only [partsOf, List.map, h, h']
  rfl
theorem s_appfit {x y : X} {t n cap : Nat} {w rest ys : List Nat} {u : Tok} (hx : x.ev ρ = .buf t 0 n (some cap) 1) (ht : σ t = nblk (w ++ rest)) (hw : w.length = n) (hy : y.ev ρ = nats u ys) (h1 : n + ys.length ≤ cap) (h2 : ys.length ≤ rest.length)
    (hk : wps P dr c0 r ⟨upd ρ i (.buf t 0 (n + ys.length) (some cap) 1), supd σ t (nblk ((w ++ ys) ++ rest.drop ys.length)), c⟩ K) : wps P dr c0 (⟨some i, .app 1 8 [.int .u64 0] x y, none⟩ :: r) ⟨ρ, σ, c⟩ K := by
  have hc : vcells 1 σ (y.ev ρ) = some (ys.map nv) := by rw [hy]; cases u <;> rfl
  refine s_eff rfl (by intros; exact fun h => by cases h) (by intros; exact fun h => by cases h) ⟨_, _, _, none, .appFit (k := ys.length) hx ht hc (by simp) h1 (by simp; omega), ?_⟩
  have e : putCells ((w ++ rest).map nv) (n * 1) (ys.map nv) = ((w ++ ys) ++ rest.drop ys.length).map nv := by
    rw [Nat.mul_one, putCells_all _ _ _ (by simp; omega)]
    rw [← hw]
    simp [List.map_drop, List.drop_append]
  rw [e]
  exact hk
end

theorem norm32_spec (t : Tok) (l : List Nat) (c : Nat) (hl : Lim 4294967296 l) (hn : l.length ≤ 4398046511104) : VSpec Tryz.prog F.surdref01_norm c [nats t l] (fun r _ => r = nats t (digs 4294967296 (val 4294967296 l))) := by
  rw [← trim_digs two32 hl]
  refine spec_mk hm E.surdref01_norm B.surdref01_norm K.surdref01_norm Q.surdref01_norm (by rw [N.surdref01_norm]; simp) ?_
  unfold C.surdref01_norm R.surdref01_norm
  (repeat (first | refine v_reg ?_ | refine v_last ?_ | refine vwp_seq ?_ | refine vwp_block ?_ | refine vwp_skip ?_ | refine vwp_exit ?_ | refine vwp_ret ?_ | refine v_cond ?_ | simp only [vm, ite_true, ite_false, eq_self, reduceIte, Nat.reduceEqDiff, Option.map] | refine And.intro (by omega) ?_))
  refine v_loop (fun S => ∃ n : Nat, S.ρ 0 = nats t l ∧ S.ρ 3 = iv (n : Int) ∧ n ≤ l.length ∧ l.take n = trimL l ∧ S.σ = noBlk ∧ S.c = c) ?_ ?_
  · refine vwp_loop (fun n S => S.ρ 0 = nats t l ∧ S.ρ 3 = iv (n : Int) ∧ n ≤ l.length ∧ trimL (l.take n) = trimL l ∧ S.σ = noBlk ∧ S.c = c) l.length ?_ ?_
    · refine ⟨?_, ?_⟩
      · simp only [vm, ite_true, ite_false, eq_self, reduceIte, Nat.reduceEqDiff, Option.map]
      · simp only [vm, ite_true, ite_false, eq_self, reduceIte, Nat.reduceEqDiff, Option.map, List.take_length]
        (repeat' apply And.intro) <;> first | rfl | omega | assumption
    rintro n ⟨ρ, σ, k⟩ ⟨h0, h3, hn2, ht, hσ, hk⟩
    dsimp only at h0 h3 hσ hk
    subst hσ hk
    rcases Nat.eq_zero_or_pos n with rfl | hp
    · have g : ¬ (0 : Int) < ((0 : Nat) : Int) := by omega
      (repeat (first | refine v_reg ?_ | refine v_last ?_ | refine vwp_seq ?_ | refine vwp_block ?_ | refine vwp_skip ?_ | refine vwp_exit ?_ | refine vwp_ret ?_ | refine v_cond ?_ | simp only [vm, ite_true, ite_false, eq_self, reduceIte, Nat.reduceEqDiff, Option.map, h0, h3, g] | refine And.intro (by omega) ?_))
      exact ⟨0, rfl, by omega, by rw [← ht]; rfl⟩
    · obtain ⟨i, rfl⟩ : ∃ i, n = i + 1 := ⟨n - 1, by omega⟩
      have g : (0 : Int) < ((i + 1 : Nat) : Int) := by omega
      have e1 : (((i + 1 : Nat) : Int) - 1) = (i : Int) := by omega
      have hts := take_snoc (l := l) (i := i) (by omega)
      rw [hts] at ht
      by_cases gz : l.getD i 0 = 0
      · rw [gz, trimL_zero] at ht
        (repeat (first | refine v_reg ?_ | refine v_last ?_ | refine vwp_seq ?_ | refine vwp_block ?_ | refine vwp_skip ?_ | refine vwp_exit ?_ | refine vwp_ret ?_ | refine v_cond ?_ | simp only [vm, ite_true, ite_false, eq_self, reduceIte, Nat.reduceEqDiff, Option.map, h0, h3, g, e1, gz] | refine And.intro (by omega) ?_))
        exact ⟨i, by omega, rfl, by omega, ht⟩
      · rw [trimL_pos _ _ gz] at ht
        (repeat (first | refine v_reg ?_ | refine v_last ?_ | refine vwp_seq ?_ | refine vwp_block ?_ | refine vwp_skip ?_ | refine vwp_exit ?_ | refine vwp_ret ?_ | refine v_cond ?_ | simp only [vm, ite_true, ite_false, eq_self, reduceIte, Nat.reduceEqDiff, Option.map, h0, h3, g, e1, gz] | refine And.intro (by omega) ?_))
        exact ⟨i + 1, rfl, by omega, by rw [hts]; exact ht⟩
  rintro ⟨ρ, σ, k⟩ ⟨n, h0, h3, hn2, ht, hσ, hk⟩
  dsimp only at h0 h3 hσ hk
  subst hσ hk
  (repeat (first | refine v_reg ?_ | refine v_last ?_ | refine vwp_seq ?_ | refine vwp_block ?_ | refine vwp_skip ?_ | refine vwp_exit ?_ | refine vwp_ret ?_ | refine v_cond ?_ | simp only [vm, ite_true, ite_false, eq_self, reduceIte, Nat.reduceEqDiff, Option.map, h0, h3] | refine And.intro (by omega) ?_))
  rw [ht]

theorem of_spec (t : Tok) (a : List Nat) (c : Nat) (ha : Lim 18446744073709551616 a) (hna : a.length ≤ 1099511627776) :
    VSpec Tryz.prog F.surdref01_Of c [nats t a] (fun r c' => ∃ i, r = nats (.id i) (digs 4294967296 (val 18446744073709551616 a)) ∧ c ≤ i ∧ i < c') := by
  refine spec_mk hm E.surdref01_Of B.surdref01_Of K.surdref01_Of Q.surdref01_Of (by rw [N.surdref01_Of]; simp) ?_
  unfold C.surdref01_Of R.surdref01_Of
  (repeat (first | refine v_reg ?_ | refine v_last ?_ | refine vwp_seq ?_ | refine vwp_block ?_ | refine vwp_skip ?_ | refine vwp_exit ?_ | refine vwp_ret ?_ | refine v_cond ?_ | simp only [vm, ite_true, ite_false, eq_self, reduceIte, Nat.reduceEqDiff, Option.map] | refine And.intro (by omega) ?_))
  refine s_mk (n := 0) (m := 2 * a.length) (by simp only [vm, ite_true, ite_false, eq_self, reduceIte, Nat.reduceEqDiff, Option.map]; rfl) (by simp only [vm, ite_true, ite_false, eq_self, reduceIte, Nat.reduceEqDiff, Option.map]; rfl) (by omega) (by omega) ?_
  (repeat (first | refine v_reg ?_ | refine v_last ?_ | refine vwp_seq ?_ | refine vwp_block ?_ | refine vwp_skip ?_ | refine vwp_exit ?_ | refine vwp_ret ?_ | refine v_cond ?_ | simp only [vm, ite_true, ite_false, eq_self, reduceIte, Nat.reduceEqDiff, Option.map] | refine And.intro (by omega) ?_))
  refine v_loop (fun S => ∃ w, w.length = 2 * a.length ∧ Lim 4294967296 w ∧ val 4294967296 w = val 18446744073709551616 a ∧ S.ρ 3 = .buf c 0 (2 * a.length) (some (2 * a.length)) 1 ∧ S.σ = supd noBlk c (nblk w) ∧ c + 1 ≤ S.c) ?_ ?_
  · refine vwp_loop (fun k S => ∃ i w, k = a.length - i ∧ i ≤ a.length ∧ w.length = 2 * i ∧ Lim 4294967296 w ∧ val 4294967296 w = val 18446744073709551616 (a.take i) ∧ S.ρ 10 = nats t a ∧ S.ρ 11 = iv a.length ∧ S.ρ 12 = iv i ∧ S.ρ 3 = .buf c 0 (2 * i) (some (2 * a.length)) 1 ∧ S.σ = supd noBlk c (nblk (w ++ List.replicate (2 * a.length - 2 * i) 0)) ∧ c + 1 ≤ S.c) a.length ?_ ?_
    · refine ⟨0, [], by omega, by omega, ?_⟩
      simp only [vm, ite_true, ite_false, eq_self, reduceIte, Nat.reduceEqDiff, Option.map]
      (repeat' apply And.intro) <;> first | rfl | omega | assumption | exact Lim.nil | (simp [val]; done)
    rintro k ⟨ρ2, σ, c4⟩ ⟨i, w, hk, hi, hw, hlw, hinv, h10, h11, h12, h3, hσ, hc4⟩
    dsimp only at h10 h11 h12 h3 hσ hc4
    subst hσ
    by_cases g : (i : Int) < a.length
    · have hi' : i < a.length := by omega
      have hxi := ha.getD (i := i) (by decide)
      have hval := val_take (b := 18446744073709551616) hi'
      (repeat (first | refine v_reg ?_ | refine v_last ?_ | refine vwp_seq ?_ | refine vwp_block ?_ | refine vwp_skip ?_ | refine vwp_exit ?_ | refine vwp_ret ?_ | refine v_cond ?_ | simp only [vm, ite_true, ite_false, eq_self, reduceIte, Nat.reduceEqDiff, Option.map, h10, h11, h12, h3, g] | refine And.intro (by omega) ?_))
      have hq : a.getD i 0 / 4294967296 % 18446744073709551616 = a.getD i 0 / 4294967296 := Nat.mod_eq_of_lt (by omega)
      refine s_bsl2 (n := a.getD i 0 % 4294967296) (m := a.getD i 0 / 4294967296) (by simp only [vm, ite_true, ite_false, eq_self, reduceIte, Nat.reduceEqDiff, Option.map]) (by simp only [vm, ite_true, ite_false, eq_self, reduceIte, Nat.reduceEqDiff, Option.map, hq]) ?_
      refine s_appfit (t := c) (n := 2 * i) (cap := 2 * a.length) (w := w) (rest := List.replicate (2 * a.length - 2 * i) 0) (u := .id c4) (ys := [a.getD i 0 % 4294967296, a.getD i 0 / 4294967296]) (by simp only [vm, ite_true, ite_false, eq_self, reduceIte, Nat.reduceEqDiff, Option.map]) (by simp only [vm, ite_true, ite_false, eq_self, reduceIte, Nat.reduceEqDiff, Option.map]) hw (by simp only [vm, ite_true, ite_false, eq_self, reduceIte, Nat.reduceEqDiff, Option.map]) (by simp; omega) (by simp; omega) ?_
      have hdrop : (List.replicate (2 * a.length - 2 * i) 0).drop [a.getD i 0 % 4294967296, a.getD i 0 / 4294967296].length = List.replicate (2 * a.length - 2 * (i + 1)) 0 := by
        rw [List.drop_replicate]; congr 1 <;> first | omega | (simp; done) | (simp; omega)
      have hlen2 : 2 * i + [a.getD i 0 % 4294967296, a.getD i 0 / 4294967296].length = 2 * (i + 1) := by simp; omega
      rw [hdrop, hlen2]
      (repeat (first | refine v_reg ?_ | refine v_last ?_ | refine vwp_seq ?_ | refine vwp_block ?_ | refine vwp_skip ?_ | refine vwp_exit ?_ | refine vwp_ret ?_ | refine v_cond ?_ | simp only [vm, ite_true, ite_false, eq_self, reduceIte, Nat.reduceEqDiff, Option.map, h10, h11, h12, h3] | refine And.intro (by omega) ?_))
      have hv : val 4294967296 (w ++ [a.getD i 0 % 4294967296, a.getD i 0 / 4294967296]) = val 18446744073709551616 (a.take (i + 1)) := by
        rw [val_append, hw, hinv, hval, pow32, pow64, show 32 * (2 * i) = 64 * i by omega]
        congr 1
        congr 1
        simp only [val]
        omega
      refine ⟨a.length - (i + 1), by omega, i + 1, w ++ [a.getD i 0 % 4294967296, a.getD i 0 / 4294967296], ?_⟩
      (repeat' apply And.intro) <;> first | rfl | omega | assumption | (simp [hw]; done) | (simp [hw]; omega) | exact hlw.append (.cons (Nat.mod_lt _ (by decide)) (.cons (by omega) .nil)) | exact hv
    · have hi' : i = a.length := by omega
      subst hi'
      (repeat (first | refine v_reg ?_ | refine v_last ?_ | refine vwp_seq ?_ | refine vwp_block ?_ | refine vwp_skip ?_ | refine vwp_exit ?_ | refine vwp_ret ?_ | refine v_cond ?_ | simp only [vm, ite_true, ite_false, eq_self, reduceIte, Nat.reduceEqDiff, Option.map, h10, h11, h12, h3, g] | refine And.intro (by omega) ?_))
      rw [List.take_length] at hinv
      refine ⟨w, ?_⟩
      have e0 : w ++ List.replicate (2 * a.length - 2 * a.length) 0 = w := by simp
      rw [e0]
      (repeat' apply And.intro) <;> first | rfl | omega | assumption
  rintro ⟨ρ3, σ, c5⟩ ⟨w, hw, hlw, hvw, h3, hσ, hc5⟩
  dsimp only at h3 hσ hc5
  subst hσ
  refine v_freeze 3 (t := c) (off := 0) (n := 2 * a.length) (cap := some (2 * a.length)) (l := w) (by simp only [vm, ite_true, ite_false, eq_self, reduceIte, Nat.reduceEqDiff, Option.map, h3]) (by simp only [vm, ite_true, ite_false, eq_self, reduceIte, Nat.reduceEqDiff, Option.map]) (by omega) (by omega) ?_
  rw [List.drop_zero, show w.take (2 * a.length) = w from List.take_of_length_le (by omega)]
  (repeat (first | refine v_reg ?_ | refine v_last ?_ | refine vwp_seq ?_ | refine vwp_block ?_ | refine vwp_skip ?_ | refine vwp_exit ?_ | refine vwp_ret ?_ | refine v_cond ?_ | simp only [vm, ite_true, ite_false, eq_self, reduceIte, Nat.reduceEqDiff, Option.map] | refine And.intro (by omega) ?_))
  refine s_call (norm32_spec (.id c) w c5 hlw (by omega)) (by simp only [vm, ite_true, ite_false, eq_self, reduceIte, Nat.reduceEqDiff, Option.map, List.map]) ?_
  rintro v c6 hc6 rfl
  rw [hvw]
  (repeat (first | refine v_reg ?_ | refine v_last ?_ | refine vwp_seq ?_ | refine vwp_block ?_ | refine vwp_skip ?_ | refine vwp_exit ?_ | refine vwp_ret ?_ | refine v_cond ?_ | simp only [vm, ite_true, ite_false, eq_self, reduceIte, Nat.reduceEqDiff, Option.map] | refine And.intro (by omega) ?_))
  exact ⟨c, rfl, by omega, by omega⟩

end Go.Proofs.YtacodmnlnlbahaaGreatDoor
set_option linter.unusedSimpArgs false
set_option linter.unusedVariables false
set_option maxRecDepth 100000
set_option maxHeartbeats 8000000
namespace Go.Proofs.YtacodmnlnlbahaaGreatDoor
open Go.VM

theorem bl_div2 {v : Nat} (h : 0 < v) : bl v = bl (v / 2) + 1 := by
  rcases Nat.lt_or_ge v 2 with g | g
  · have : v = 1 := by omega
    subst this
    rfl
  · have := bl_shift (x := v) (k := 1) (by simpa using g)
    rw [Nat.pow_one] at this
    omega

theorem len_spec (t : Tok) (n c : Nat) (hn : (digs 4294967296 n).length ≤ 4398046511104) : VSpec Tryz.prog F.surdref01_Num_Len c [nats t (digs 4294967296 n)] (fun r _ => r = iv (bl n)) := by
  refine spec_mk hm E.surdref01_Num_Len B.surdref01_Num_Len K.surdref01_Num_Len Q.surdref01_Num_Len (by rw [N.surdref01_Num_Len]; simp) ?_
  unfold C.surdref01_Num_Len R.surdref01_Num_Len
  by_cases g : digs 4294967296 n = []
  · have hz := (digs_eq_nil two32).1 g
    rw [g]
    have e : (([] : List Nat).length : Int) = 0 := rfl
    (repeat (first | refine v_reg ?_ | refine v_last ?_ | refine vwp_seq ?_ | refine vwp_block ?_ | refine vwp_skip ?_ | refine vwp_exit ?_ | refine vwp_ret ?_ | refine v_cond ?_ | simp only [vm, ite_true, ite_false, eq_self, reduceIte, Nat.reduceEqDiff, Option.map, e] | refine And.intro (by omega) ?_))
    rw [hz]; rfl
  obtain ⟨m, x, hmx⟩ := snoc_of_ne g
  obtain ⟨hx0, hx1, hbl⟩ := bl_digs32 hmx
  rw [hmx] at hn ⊢
  have hlen : (m ++ [x]).length = m.length + 1 := by simp
  rw [hlen] at hn
  have e0 : ¬ ((m.length + 1 : Nat) : Int) = 0 := by omega
  have e1 : ((m.length + 1 : Nat) : Int) - 1 = (m.length : Int) := by omega
  have hg : (m ++ [x]).getD m.length 0 = x := by simp
  rw [hbl]
  (repeat (first | refine v_reg ?_ | refine v_last ?_ | refine vwp_seq ?_ | refine vwp_block ?_ | refine vwp_skip ?_ | refine vwp_exit ?_ | refine vwp_ret ?_ | refine v_cond ?_ | simp only [vm, ite_true, ite_false, eq_self, reduceIte, Nat.reduceEqDiff, Option.map, hlen, e0, e1, hg] | refine And.intro (by omega) ?_))
  refine v_loop (fun S => S.ρ 3 = iv ((32 * m.length + bl x : Nat) : Int) ∧ S.σ = noBlk ∧ S.c = c) ?_ ?_
  · refine vwp_loop (fun v S => ∃ k, bl x = k + bl v ∧ v ≤ x ∧ S.ρ 3 = iv ((32 * m.length + k : Nat) : Int) ∧ S.ρ 4 = nv v ∧ S.σ = noBlk ∧ S.c = c) x ?_ ?_
    · refine ⟨0, by omega, Nat.le_refl _, ?_⟩
      simp only [vm, ite_true, ite_false, eq_self, reduceIte, Nat.reduceEqDiff, Option.map]
      (repeat' apply And.intro) <;> first | rfl | omega | assumption | (congr 1; omega)
    rintro v ⟨ρ, σ, c1⟩ ⟨k, hk, hvx, h3, h4, hσ, hc1⟩
    dsimp only at h3 h4 hσ hc1
    subst hσ hc1
    have hbx : bl x ≤ 32 := bl_le hx1
    rcases Nat.eq_zero_or_pos v with rfl | hv
    · have g1 : ¬ 0 < 0 := by omega
      (repeat (first | refine v_reg ?_ | refine v_last ?_ | refine vwp_seq ?_ | refine vwp_block ?_ | refine vwp_skip ?_ | refine vwp_exit ?_ | refine vwp_ret ?_ | refine v_cond ?_ | simp only [vm, ite_true, ite_false, eq_self, reduceIte, Nat.reduceEqDiff, Option.map, h3, h4, g1] | refine And.intro (by omega) ?_))
      rw [bl_zero] at hk
      rw [hk]; rfl
    · have hd := bl_div2 hv
      have e2 : ((32 * m.length + k : Nat) : Int) + 1 = ((32 * m.length + (k + 1) : Nat) : Int) := by omega
      have e3 : v / 2 % 18446744073709551616 = v / 2 := Nat.mod_eq_of_lt (by omega)
      (repeat (first | refine v_reg ?_ | refine v_last ?_ | refine vwp_seq ?_ | refine vwp_block ?_ | refine vwp_skip ?_ | refine vwp_exit ?_ | refine vwp_ret ?_ | refine v_cond ?_ | simp only [vm, ite_true, ite_false, eq_self, reduceIte, Nat.reduceEqDiff, Option.map, h3, h4, hv, e2, e3] | refine And.intro (by omega) ?_))
      refine ⟨v / 2, by omega, k + 1, by omega, by omega, ?_⟩
      (repeat' apply And.intro) <;> first | rfl | omega | assumption
  rintro ⟨ρ, σ, c1⟩ ⟨h3, hσ, hc1⟩
  dsimp only at h3 hσ hc1
  subst hσ hc1
  (repeat (first | refine v_reg ?_ | refine v_last ?_ | refine vwp_seq ?_ | refine vwp_block ?_ | refine vwp_skip ?_ | refine vwp_exit ?_ | refine vwp_ret ?_ | refine v_cond ?_ | simp only [vm, ite_true, ite_false, eq_self, reduceIte, Nat.reduceEqDiff, Option.map, h3] | refine And.intro (by omega) ?_))
  exact Nat.le_refl _

theorem cmp_spec (t u : Tok) (m n c : Nat) (hm1 : (digs 4294967296 m).length ≤ 4398046511104) (hn1 : (digs 4294967296 n).length ≤ 4398046511104) : VSpec Tryz.prog F.surdref01_Cmp c [nats t (digs 4294967296 m), nats u (digs 4294967296 n)] (fun r _ => r = iv (cmpI m n)) := by
  refine spec_mk hm E.surdref01_Cmp B.surdref01_Cmp K.surdref01_Cmp Q.surdref01_Cmp (by rw [N.surdref01_Cmp]; simp) ?_
  unfold C.surdref01_Cmp R.surdref01_Cmp
  have hda := lim_digs two32 m
  have hdb := lim_digs two32 n
  have va := val_digs two32 m
  have vb := val_digs two32 n
  have hlt := lt_of_len two32 (m := m) (n := n)
  have hgt := lt_of_len two32 (m := n) (n := m)
  generalize digs 4294967296 m = x at *
  generalize digs 4294967296 n = y at *
  by_cases g : (x.length : Int) = y.length
  rotate_left
  · by_cases g2 : (x.length : Int) < y.length
    · (repeat (first | refine v_reg ?_ | refine v_last ?_ | refine vwp_seq ?_ | refine vwp_block ?_ | refine vwp_skip ?_ | refine vwp_exit ?_ | refine vwp_ret ?_ | refine v_cond ?_ | simp only [vm, ite_true, ite_false, eq_self, reduceIte, Nat.reduceEqDiff, Option.map, g, g2] | refine And.intro (by omega) ?_))
      rw [cmpI, if_pos (hlt (by omega))]
    · (repeat (first | refine v_reg ?_ | refine v_last ?_ | refine vwp_seq ?_ | refine vwp_block ?_ | refine vwp_skip ?_ | refine vwp_exit ?_ | refine vwp_ret ?_ | refine v_cond ?_ | simp only [vm, ite_true, ite_false, eq_self, reduceIte, Nat.reduceEqDiff, Option.map, g, g2] | refine And.intro (by omega) ?_))
      have := hgt (by omega)
      rw [cmpI, if_neg (by omega), if_neg (by omega)]
  have hxy : x.length = y.length := by omega
  (repeat (first | refine v_reg ?_ | refine v_last ?_ | refine vwp_seq ?_ | refine vwp_block ?_ | refine vwp_skip ?_ | refine vwp_exit ?_ | refine vwp_ret ?_ | refine v_cond ?_ | simp only [vm, ite_true, ite_false, eq_self, reduceIte, Nat.reduceEqDiff, Option.map, g] | refine And.intro (by omega) ?_))
  refine v_loopR (fun S => val 4294967296 x = val 4294967296 y ∧ S.σ = noBlk ∧ S.c = c) ?_ ?_
  · refine vwp_loop (fun k S => S.ρ 0 = nats t x ∧ S.ρ 1 = nats u y ∧ S.ρ 5 = iv ((k : Int) - 1) ∧ k ≤ x.length ∧ val 4294967296 (x.drop k) = val 4294967296 (y.drop k) ∧ S.σ = noBlk ∧ S.c = c) x.length ?_ ?_
    · rw [List.drop_of_length_le (Nat.le_refl _), hxy, List.drop_of_length_le (Nat.le_refl _)]
      simp only [vm, ite_true, ite_false, eq_self, reduceIte, Nat.reduceEqDiff, Option.map, g]
      (repeat' apply And.intro) <;> first | rfl | omega | assumption
    rintro k ⟨ρ, σ, c3⟩ ⟨h0, h1, h5, hk, hv, hσ, hc3⟩
    dsimp only at h0 h1 h5 hσ hc3
    subst hσ hc3
    rcases Nat.eq_zero_or_pos k with rfl | hp
    · have g1 : ¬ (0 : Int) ≤ ((0 : Nat) : Int) - 1 := by omega
      (repeat (first | refine v_reg ?_ | refine v_last ?_ | refine vwp_seq ?_ | refine vwp_block ?_ | refine vwp_skip ?_ | refine vwp_exit ?_ | refine vwp_ret ?_ | refine v_cond ?_ | simp only [vm, ite_true, ite_false, eq_self, reduceIte, Nat.reduceEqDiff, Option.map, h0, h1, h5, g1] | refine And.intro (by omega) ?_))
      rw [List.drop_zero, List.drop_zero] at hv
      exact hv
    · obtain ⟨i, rfl⟩ : ∃ i, k = i + 1 := ⟨k - 1, by omega⟩
      have e1 : (((i + 1 : Nat) : Int) - 1) = (i : Int) := by omega
      rw [e1] at h5
      have g1 : (0 : Int) ≤ (i : Int) := by omega
      by_cases g4 : x.getD i 0 < y.getD i 0
      · have := val_lt_of_top two32 hda hdb (i := i) (by omega) (by omega) hxy hv g4
        (repeat (first | refine v_reg ?_ | refine v_last ?_ | refine vwp_seq ?_ | refine vwp_block ?_ | refine vwp_skip ?_ | refine vwp_exit ?_ | refine vwp_ret ?_ | refine v_cond ?_ | simp only [vm, ite_true, ite_false, eq_self, reduceIte, Nat.reduceEqDiff, Option.map, h0, h1, h5, g1, g4] | refine And.intro (by omega) ?_))
        rw [cmpI, if_pos (by omega)]
      by_cases g5 : y.getD i 0 < x.getD i 0
      · have := val_lt_of_top two32 hdb hda (i := i) (by omega) (by omega) hxy.symm hv.symm g5
        (repeat (first | refine v_reg ?_ | refine v_last ?_ | refine vwp_seq ?_ | refine vwp_block ?_ | refine vwp_skip ?_ | refine vwp_exit ?_ | refine vwp_ret ?_ | refine v_cond ?_ | simp only [vm, ite_true, ite_false, eq_self, reduceIte, Nat.reduceEqDiff, Option.map, h0, h1, h5, g1, g4, g5] | refine And.intro (by omega) ?_))
        rw [cmpI, if_neg (by omega), if_neg (by omega)]
      · have e2 := val_drop (b := 4294967296) (l := x) (i := i) (by omega)
        have e3 := val_drop (b := 4294967296) (l := y) (i := i) (by omega)
        have e4 : x.getD i 0 = y.getD i 0 := by omega
        have hv2 : val 4294967296 (x.drop i) = val 4294967296 (y.drop i) := by rw [e2, e3, e4, hv]
        (repeat (first | refine v_reg ?_ | refine v_last ?_ | refine vwp_seq ?_ | refine vwp_block ?_ | refine vwp_skip ?_ | refine vwp_exit ?_ | refine vwp_ret ?_ | refine v_cond ?_ | simp only [vm, ite_true, ite_false, eq_self, reduceIte, Nat.reduceEqDiff, Option.map, h0, h1, h5, g1, g4, g5] | refine And.intro (by omega) ?_))
        refine ⟨i, by omega, ?_⟩
        (repeat' apply And.intro) <;> first | rfl | omega | assumption | exact hv2
  rintro ⟨ρ, σ, c1⟩ ⟨hv, hσ, hc1⟩
  dsimp only at hσ hc1
  subst hσ hc1
  (repeat (first | refine v_reg ?_ | refine v_last ?_ | refine vwp_seq ?_ | refine vwp_block ?_ | refine vwp_skip ?_ | refine vwp_exit ?_ | refine vwp_ret ?_ | refine v_cond ?_ | simp only [vm, ite_true, ite_false, eq_self, reduceIte, Nat.reduceEqDiff, Option.map] | refine And.intro (by omega) ?_))
  have : m = n := by omega
  rw [cmpI, if_neg (by omega), if_pos this]
end Go.Proofs.YtacodmnlnlbahaaGreatDoor
set_option linter.unusedSimpArgs false
set_option linter.unusedVariables false
set_option maxRecDepth 100000
set_option maxHeartbeats 8000000
namespace Go.Proofs.YtacodmnlnlbahaaGreatDoor
open Go.VM
theorem at_spec (t : Tok) (l : List Nat) (i c : Nat) (hn : l.length ≤ 4398046511104) : VSpec Tryz.prog F.surdref01_Num_at c [nats t l, iv i] (fun r c' => r = nv (l.getD i 0)) := by
  refine spec_mk hm E.surdref01_Num_at B.surdref01_Num_at K.surdref01_Num_at Q.surdref01_Num_at (by rw [N.surdref01_Num_at]; simp) ?_
  unfold C.surdref01_Num_at R.surdref01_Num_at
  by_cases g : (i : Int) < l.length
  · (repeat (first | refine v_reg ?_ | refine v_last ?_ | refine vwp_seq ?_ | refine vwp_block ?_ | refine vwp_skip ?_ | refine vwp_exit ?_ | refine vwp_ret ?_ | refine v_cond ?_ | simp only [vm, ite_true, ite_false, eq_self, reduceIte, Nat.reduceEqDiff, Option.map, g] | refine And.intro (by omega) ?_))
    exact Nat.le_refl _
  · (repeat (first | refine v_reg ?_ | refine v_last ?_ | refine vwp_seq ?_ | refine vwp_block ?_ | refine vwp_skip ?_ | refine vwp_exit ?_ | refine vwp_ret ?_ | refine v_cond ?_ | simp only [vm, ite_true, ite_false, eq_self, reduceIte, Nat.reduceEqDiff, Option.map, g] | refine And.intro (by omega) ?_))
    rw [getD_ge (by omega)]

theorem len32_bl {n k : Nat} (h : bl n ≤ 32 * k) : (digs 4294967296 n).length ≤ k := by
  refine digs_len two32 ?_
  rw [pow32]
  exact lt_of_bl h
def RefR (c c' n : Nat) (r : V) : Prop := ∃ i, r = nats (.id i) (digs 4294967296 n) ∧ c ≤ i ∧ i < c'
theorem cmpR (t u : Tok) (m n c : Nat) (hm : bl m ≤ 68719476736) (hn : bl n ≤ 68719476736) : VSpec Tryz.prog F.surdref01_Cmp c [nats t (digs 4294967296 m), nats u (digs 4294967296 n)] (fun r _ => r = iv (cmpI m n)) :=
  cmp_spec t u m n c (Nat.le_trans (len32_bl (k := 2147483648) (by omega)) (by decide)) (Nat.le_trans (len32_bl (k := 2147483648) (by omega)) (by decide))
end Go.Proofs.YtacodmnlnlbahaaGreatDoor
set_option linter.unusedSimpArgs false
set_option linter.unusedVariables false
set_option maxRecDepth 100000
set_option maxHeartbeats 8000000
namespace Go.Proofs.YtacodmnlnlbahaaGreatDoor
open Go.VM
theorem killσ_lit (t : Nat) {σ : Nat → Option Blk} (h : LitB σ) : killσ t σ = σ := by
  funext u
  unfold killσ
  cases hk : σ u with
  | none => rfl
  | some k =>
    simp only [Option.map]
    have : k.cells.map (killV t) = k.cells := by
      refine (List.map_congr_left fun x hx => ?_).trans (List.map_id _)
      obtain ⟨v, rfl⟩ := h u k hk x hx
      rfl
    rw [this]
section
variable {P : Program} {dr : Bool} {c0 : Nat} {ρ : Nat → V} {σ : Nat → Option Blk} {c i : Nat} {r : List VO} {K : VS → Prop}
theorem s_appmove {x y : X} {t n : Nat} {cap : Option Nat} {w ys : List Nat} {u : Tok} (hx : x.ev ρ = .buf t 0 n cap 1) (ht : σ t = nblk w) (hw : w.length = n) (h0 : c0 ≤ t) (hy : y.ev ρ = nats u ys) (hb : n + ys.length ≤ 17592186044416) (hσ : LitB σ)
    (hk : wps P dr c0 r ⟨upd (kill (some (.inl t)) ρ) i (.buf t 0 (n + ys.length) none 1), supd σ t (nblk (w ++ ys)), c⟩ K) : wps P dr c0 (⟨some i, .app 1 8 [.int .u64 0] x y, none⟩ :: r) ⟨ρ, σ, c⟩ K := by
  have hc : vcells 1 σ (y.ev ρ) = some (ys.map nv) := by rw [hy]; cases u <;> rfl
  refine s_eff rfl (by intros; exact fun h => by cases h) (by intros; exact fun h => by cases h) ⟨_, _, _, some (.inl t), .appMove (k := ys.length) hx ht h0 hc (by simp) (by simp; omega) (by omega) (by omega), ?_⟩
  have e : (((w.map nv).take (n * 1)) ++ ys.map nv).map (killV t) = (w ++ ys).map nv := by
    rw [Nat.mul_one, ← hw, List.take_of_length_le (by simp), ← List.map_append, List.map_map]; rfl
  rw [e, killσ_lit t hσ]
  exact hk
end
theorem kill_at (t : Nat) (ρ : Nat → V) (j : Nat) : kill (some (.inl t)) ρ j = killV t (ρ j) := rfl
theorem killV_sl (t : Nat) (tk : Tok) (l : List Nat) : killV t (nats tk l) = nats tk l := rfl
theorem killV_lit (t : Nat) (v : Value) : killV t (.lit v) = .lit v := rfl

theorem limbs_spec (t : Tok) (x : List Nat) (c : Nat) (hx : Lim 4294967296 x) (hnx : x.length ≤ 1099511627776) :
    VSpec Tryz.prog F.surdref01_Num_Limbs c [nats t x] (fun r c' => ∃ tk l, r = nats tk l ∧ Tk c c' tk ∧ Lim 18446744073709551616 l ∧ l.length = (x.length + 1) / 2 ∧ val 18446744073709551616 l = val 4294967296 x) := by
  refine spec_mk hm E.surdref01_Num_Limbs B.surdref01_Num_Limbs K.surdref01_Num_Limbs Q.surdref01_Num_Limbs (by rw [N.surdref01_Num_Limbs]; simp) ?_
  unfold C.surdref01_Num_Limbs R.surdref01_Num_Limbs
  (repeat (first | refine v_reg ?_ | refine v_last ?_ | refine vwp_seq ?_ | refine vwp_block ?_ | refine vwp_skip ?_ | refine vwp_exit ?_ | refine vwp_ret ?_ | refine v_cond ?_ | simp only [vm, ite_true, ite_false, eq_self, reduceIte, Nat.reduceEqDiff, Option.map] | refine And.intro (by omega) ?_))
  refine v_loop (fun S => ∃ w, Lim 18446744073709551616 w ∧ w.length = (x.length + 1) / 2 ∧ val 18446744073709551616 w = val 4294967296 x ∧ ((w = [] ∧ S.ρ 3 = nil1 ∧ S.σ = noBlk) ∨ ∃ tb, S.ρ 3 = .buf tb 0 w.length none 1 ∧ S.σ = supd noBlk tb (nblk w) ∧ c ≤ tb ∧ tb < S.c) ∧ c ≤ S.c) ?_ ?_
  · refine vwp_loop (fun k S => ∃ j w, k = x.length + 1 - 2 * j ∧ 2 * j ≤ x.length + 1 ∧ w.length = j ∧ Lim 18446744073709551616 w ∧ val 18446744073709551616 w = val 4294967296 (x.take (2 * j)) ∧ S.ρ 0 = nats t x ∧ S.ρ 4 = iv ((2 * j : Nat) : Int) ∧ ((w = [] ∧ S.ρ 3 = nil1 ∧ S.σ = noBlk) ∨ ∃ tb, S.ρ 3 = .buf tb 0 w.length none 1 ∧ S.σ = supd noBlk tb (nblk w) ∧ c ≤ tb ∧ tb < S.c) ∧ c ≤ S.c) (x.length + 1) ?_ ?_
    · refine ⟨0, [], by omega, by omega, rfl, Lim.nil, by simp [val], ?_⟩
      simp only [vm, ite_true, ite_false, eq_self, reduceIte, Nat.reduceEqDiff, Option.map]
      (repeat' apply And.intro) <;> first | rfl | exact Nat.le_refl _ | exact .inl trivial | exact .inl rfl | exact .inl ⟨rfl, rfl⟩
    rintro k ⟨ρ2, σ, c4⟩ ⟨j, w, hk, hj, hw, hlw, hinv, h0, h4, hcase, hc4⟩
    dsimp only at h0 h4 hcase hc4
    by_cases g : ((2 * j : Nat) : Int) < x.length
    · have hj' : 2 * j < x.length := by omega
      have hxi := hx.getD (i := 2 * j) (by decide)
      have hyi := hx.getD (i := 2 * j + 1) (by decide)
      have hv1 := val_take' 4294967296 x (2 * j)
      have hv2 := val_take' 4294967296 x (2 * j + 1)
      have e1 : ((2 * j : Nat) : Int) + 1 = ((2 * j + 1 : Nat) : Int) := by omega
      have e2 : ((2 * j : Nat) : Int) + 2 = ((2 * (j + 1) : Nat) : Int) := by omega
      obtain ⟨vv, hvv⟩ : ∃ vv, vv = x.getD (2 * j) 0 + x.getD (2 * j + 1) 0 * 4294967296 := ⟨_, rfl⟩
      have hvl : vv < 18446744073709551616 := by omega
      have key : val 18446744073709551616 (w ++ [vv]) = val 4294967296 (x.take (2 * (j + 1))) := by
        rw [val_append, hw, hinv, show 2 * (j + 1) = 2 * j + 1 + 1 by omega, hv2, hv1, val, val, Nat.mul_zero, Nat.add_zero, pow64, show 64 * j = 32 * (2 * j) by omega, ← pow32, hvv, Nat.pow_succ, Nat.mul_add, Nat.mul_assoc, Nat.mul_comm 4294967296]
        omega
      have ew : (w ++ [vv]).length = j + 1 := by simp [hw]
      rcases hcase with ⟨hw0, h3, hσ⟩ | ⟨tb, h3, hσ, htb, htb2⟩
      · subst hσ hw0
        obtain rfl : j = 0 := by simpa using hw.symm
        by_cases g2 : ((2 * 0 + 1 : Nat) : Int) < x.length
        · have m1 : x.getD (2 * 0 + 1) 0 * 4294967296 % 18446744073709551616 = x.getD (2 * 0 + 1) 0 * 4294967296 := Nat.mod_eq_of_lt (by omega)
          have m2 : (x.getD (2 * 0) 0 + x.getD (2 * 0 + 1) 0 * 4294967296) % 18446744073709551616 = vv := by rw [← hvv]; exact Nat.mod_eq_of_lt hvl
          (repeat (first | refine v_reg ?_ | refine v_last ?_ | refine vwp_seq ?_ | refine vwp_block ?_ | refine vwp_skip ?_ | refine vwp_exit ?_ | refine vwp_ret ?_ | refine v_cond ?_ | simp only [vm, ite_true, ite_false, eq_self, reduceIte, Nat.reduceEqDiff, Option.map, h0, h3, h4, g, e1, g2, m1, m2] | refine And.intro (by omega) ?_))
          refine s_bsl1 (n := vv) (by simp only [vm, ite_true, ite_false, eq_self, reduceIte, Nat.reduceEqDiff, Option.map]) ?_
          refine s_app0 (t := .id c4) (l := [vv]) (by simp only [vm, ite_true, ite_false, eq_self, reduceIte, Nat.reduceEqDiff, Option.map]) (by simp only [vm, ite_true, ite_false, eq_self, reduceIte, Nat.reduceEqDiff, Option.map]) (by simp) (fun e => by cases e) (fun _ => ?_)
          (repeat (first | refine v_reg ?_ | refine v_last ?_ | refine vwp_seq ?_ | refine vwp_block ?_ | refine vwp_skip ?_ | refine vwp_exit ?_ | refine vwp_ret ?_ | refine v_cond ?_ | simp only [vm, ite_true, ite_false, eq_self, reduceIte, Nat.reduceEqDiff, Option.map, h0, h3, h4, e2] | refine And.intro (by omega) ?_))
          refine ⟨x.length + 1 - 2 * (0 + 1), by omega, 0 + 1, [] ++ [vv], ?_⟩
          (repeat' apply And.intro) <;> first | rfl | omega | assumption | exact key | exact lim_snoc hlw hvl | exact .inr ⟨c4 + 1, rfl, rfl, by omega, by omega⟩
        · have hy0 : x.getD (2 * 0 + 1) 0 = 0 := getD_ge (by omega)
          have m2 : x.getD (2 * 0) 0 = vv := by rw [hvv, hy0, Nat.zero_mul, Nat.add_zero]
          (repeat (first | refine v_reg ?_ | refine v_last ?_ | refine vwp_seq ?_ | refine vwp_block ?_ | refine vwp_skip ?_ | refine vwp_exit ?_ | refine vwp_ret ?_ | refine v_cond ?_ | simp only [vm, ite_true, ite_false, eq_self, reduceIte, Nat.reduceEqDiff, Option.map, h0, h3, h4, g, e1, g2, m2] | refine And.intro (by omega) ?_))
          refine s_bsl1 (n := vv) (by simp only [vm, ite_true, ite_false, eq_self, reduceIte, Nat.reduceEqDiff, Option.map]) ?_
          refine s_app0 (t := .id c4) (l := [vv]) (by simp only [vm, ite_true, ite_false, eq_self, reduceIte, Nat.reduceEqDiff, Option.map]) (by simp only [vm, ite_true, ite_false, eq_self, reduceIte, Nat.reduceEqDiff, Option.map]) (by simp) (fun e => by cases e) (fun _ => ?_)
          (repeat (first | refine v_reg ?_ | refine v_last ?_ | refine vwp_seq ?_ | refine vwp_block ?_ | refine vwp_skip ?_ | refine vwp_exit ?_ | refine vwp_ret ?_ | refine v_cond ?_ | simp only [vm, ite_true, ite_false, eq_self, reduceIte, Nat.reduceEqDiff, Option.map, h0, h3, h4, e2] | refine And.intro (by omega) ?_))
          refine ⟨x.length + 1 - 2 * (0 + 1), by omega, 0 + 1, [] ++ [vv], ?_⟩
          (repeat' apply And.intro) <;> first | rfl | omega | assumption | exact key | exact lim_snoc hlw hvl | exact .inr ⟨c4 + 1, rfl, rfl, by omega, by omega⟩
      · subst hσ
        by_cases g2 : ((2 * j + 1 : Nat) : Int) < x.length
        · have m1 : x.getD (2 * j + 1) 0 * 4294967296 % 18446744073709551616 = x.getD (2 * j + 1) 0 * 4294967296 := Nat.mod_eq_of_lt (by omega)
          have m2 : (x.getD (2 * j) 0 + x.getD (2 * j + 1) 0 * 4294967296) % 18446744073709551616 = vv := by rw [← hvv]; exact Nat.mod_eq_of_lt hvl
          (repeat (first | refine v_reg ?_ | refine v_last ?_ | refine vwp_seq ?_ | refine vwp_block ?_ | refine vwp_skip ?_ | refine vwp_exit ?_ | refine vwp_ret ?_ | refine v_cond ?_ | simp only [vm, ite_true, ite_false, eq_self, reduceIte, Nat.reduceEqDiff, Option.map, h0, h3, h4, g, e1, g2, m1, m2] | refine And.intro (by omega) ?_))
          refine s_bsl1 (n := vv) (by simp only [vm, ite_true, ite_false, eq_self, reduceIte, Nat.reduceEqDiff, Option.map]) ?_
          refine s_appmove (t := tb) (n := w.length) (cap := none) (w := w) (u := .id c4) (ys := [vv]) (by simp only [vm, ite_true, ite_false, eq_self, reduceIte, Nat.reduceEqDiff, Option.map]) (by simp only [vm, ite_true, ite_false, eq_self, reduceIte, Nat.reduceEqDiff, Option.map]) rfl htb (by simp only [vm, ite_true, ite_false, eq_self, reduceIte, Nat.reduceEqDiff, Option.map]) (by simp; omega) (LitB.no.put _ _ _) ?_
          (repeat (first | refine v_reg ?_ | refine v_last ?_ | refine vwp_seq ?_ | refine vwp_block ?_ | refine vwp_skip ?_ | refine vwp_exit ?_ | refine vwp_ret ?_ | refine v_cond ?_ | simp only [vm, ite_true, ite_false, eq_self, reduceIte, Nat.reduceEqDiff, Option.map, kill_at, killV_sl, killV_lit, h0, h3, h4, e2] | refine And.intro (by omega) ?_))
          refine ⟨x.length + 1 - 2 * (j + 1), by omega, j + 1, w ++ [vv], ?_⟩
          (repeat' apply And.intro) <;> first | rfl | omega | assumption | exact key | exact lim_snoc hlw hvl | exact .inr ⟨tb, by simp, rfl, by omega, by omega⟩
        · have hy0 : x.getD (2 * j + 1) 0 = 0 := getD_ge (by omega)
          have m2 : x.getD (2 * j) 0 = vv := by rw [hvv, hy0, Nat.zero_mul, Nat.add_zero]
          (repeat (first | refine v_reg ?_ | refine v_last ?_ | refine vwp_seq ?_ | refine vwp_block ?_ | refine vwp_skip ?_ | refine vwp_exit ?_ | refine vwp_ret ?_ | refine v_cond ?_ | simp only [vm, ite_true, ite_false, eq_self, reduceIte, Nat.reduceEqDiff, Option.map, h0, h3, h4, g, e1, g2, m2] | refine And.intro (by omega) ?_))
          refine s_bsl1 (n := vv) (by simp only [vm, ite_true, ite_false, eq_self, reduceIte, Nat.reduceEqDiff, Option.map]) ?_
          refine s_appmove (t := tb) (n := w.length) (cap := none) (w := w) (u := .id c4) (ys := [vv]) (by simp only [vm, ite_true, ite_false, eq_self, reduceIte, Nat.reduceEqDiff, Option.map]) (by simp only [vm, ite_true, ite_false, eq_self, reduceIte, Nat.reduceEqDiff, Option.map]) rfl htb (by simp only [vm, ite_true, ite_false, eq_self, reduceIte, Nat.reduceEqDiff, Option.map]) (by simp; omega) (LitB.no.put _ _ _) ?_
          (repeat (first | refine v_reg ?_ | refine v_last ?_ | refine vwp_seq ?_ | refine vwp_block ?_ | refine vwp_skip ?_ | refine vwp_exit ?_ | refine vwp_ret ?_ | refine v_cond ?_ | simp only [vm, ite_true, ite_false, eq_self, reduceIte, Nat.reduceEqDiff, Option.map, kill_at, killV_sl, killV_lit, h0, h3, h4, e2] | refine And.intro (by omega) ?_))
          refine ⟨x.length + 1 - 2 * (j + 1), by omega, j + 1, w ++ [vv], ?_⟩
          (repeat' apply And.intro) <;> first | rfl | omega | assumption | exact key | exact lim_snoc hlw hvl | exact .inr ⟨tb, by simp, rfl, by omega, by omega⟩
    · have hall : val 4294967296 (x.take (2 * j)) = val 4294967296 x := by rw [List.take_of_length_le (by omega)]
      rw [hall] at hinv
      rcases hcase with ⟨hw0, h3, hσ⟩ | ⟨tb, h3, hσ, htb, htb2⟩
      · subst hσ
        (repeat (first | refine v_reg ?_ | refine v_last ?_ | refine vwp_seq ?_ | refine vwp_block ?_ | refine vwp_skip ?_ | refine vwp_exit ?_ | refine vwp_ret ?_ | refine v_cond ?_ | simp only [vm, ite_true, ite_false, eq_self, reduceIte, Nat.reduceEqDiff, Option.map, h0, h3, h4, g] | refine And.intro (by omega) ?_))
        exact ⟨w, hlw, by omega, hinv, .inl hw0, hc4⟩
      · subst hσ
        (repeat (first | refine v_reg ?_ | refine v_last ?_ | refine vwp_seq ?_ | refine vwp_block ?_ | refine vwp_skip ?_ | refine vwp_exit ?_ | refine vwp_ret ?_ | refine v_cond ?_ | simp only [vm, ite_true, ite_false, eq_self, reduceIte, Nat.reduceEqDiff, Option.map, h0, h3, h4, g] | refine And.intro (by omega) ?_))
        refine ⟨w, hlw, by omega, hinv, .inr ⟨tb, ?_⟩, hc4⟩
        first | exact ⟨rfl, rfl, htb, htb2⟩ | exact ⟨h3, rfl, htb, htb2⟩
  rintro ⟨ρ3, σ, c5⟩ ⟨w, hlw, hwn, hvw, hcase, hc5⟩
  dsimp only at hcase hc5
  rcases hcase with ⟨hw0, h3, hσ⟩ | ⟨tb, h3, hσ, htb, htb2⟩
  · subst hσ hw0
    (repeat (first | refine v_reg ?_ | refine v_last ?_ | refine vwp_seq ?_ | refine vwp_block ?_ | refine vwp_skip ?_ | refine vwp_exit ?_ | refine vwp_ret ?_ | refine v_cond ?_ | simp only [vm, ite_true, ite_false, eq_self, reduceIte, Nat.reduceEqDiff, Option.map, h3] | refine And.intro (by omega) ?_))
    exact ⟨.nil, [], rfl, .inl rfl, Lim.nil, hwn, hvw⟩
  · subst hσ
    refine v_freeze 3 (t := tb) (off := 0) (n := w.length) (cap := none) (l := w) (by simp only [vm, ite_true, ite_false, eq_self, reduceIte, Nat.reduceEqDiff, Option.map, h3]) (by simp only [vm, ite_true, ite_false, eq_self, reduceIte, Nat.reduceEqDiff, Option.map]) (by omega) (by omega) ?_
    rw [List.drop_zero, List.take_length]
    (repeat (first | refine v_reg ?_ | refine v_last ?_ | refine vwp_seq ?_ | refine vwp_block ?_ | refine vwp_skip ?_ | refine vwp_exit ?_ | refine vwp_ret ?_ | refine v_cond ?_ | simp only [vm, ite_true, ite_false, eq_self, reduceIte, Nat.reduceEqDiff, Option.map] | refine And.intro (by omega) ?_))
    exact ⟨.id tb, w, rfl, .inr ⟨tb, rfl, by omega, by omega⟩, hlw, hwn, hvw⟩
end Go.Proofs.YtacodmnlnlbahaaGreatDoor
set_option linter.unusedSimpArgs false
set_option linter.unusedVariables false
set_option maxRecDepth 100000
set_option maxHeartbeats 8000000
namespace Go.Proofs.YtacodmnlnlbahaaGreatDoor
open Go.VM

theorem limbs_norm {n : Nat} {l : List Nat} (hl : Lim 18446744073709551616 l) (hn : l.length = ((digs 4294967296 n).length + 1) / 2) (hv : val 18446744073709551616 l = n) : l = digs 18446744073709551616 n := by
  rcases Nat.eq_zero_or_pos n with h | h
  · subst h
    have e : (digs 4294967296 0).length = 0 := rfl
    rw [e] at hn
    have e2 : l = [] := List.eq_nil_of_length_eq_zero (by omega)
    rw [e2]
    rfl
  · refine val_inj two64 hl (lim_digs two64 n) ?_ (by rw [hv, val_digs two64])
    have h1 := digs_len_pos two32 h
    have h2 : 0 < (digs 4294967296 n).length := by
      rcases Nat.eq_zero_or_pos (digs 4294967296 n).length with g | g
      · have := (digs_eq_nil two32).1 (List.eq_nil_of_length_eq_zero g); omega
      · exact g
    have h3 : l.length - 1 < (digs 18446744073709551616 n).length := by
      refine digs_len_lt two64 (Nat.le_trans ?_ h1)
      rw [pow64, pow32]
      exact Nat.pow_le_pow_right (by decide) (by omega)
    have h4 : (digs 18446744073709551616 n).length ≤ l.length := by
      refine digs_len two64 ?_
      rw [← hv]
      exact val_lt hl
    omega

theorem limbs_num (t : Tok) (n c : Nat) (hn : (digs 4294967296 n).length ≤ 1099511627776) :
    VSpec Tryz.prog F.surdref01_Num_Limbs c [nats t (digs 4294967296 n)] (fun r c' => NatR c c' n r) := by
  refine (limbs_spec t (digs 4294967296 n) c (lim_digs two32 n) hn).mono ?_
  rintro r c' ⟨tk, l, rfl, ht, hl, hln, hlv⟩
  rw [val_digs two32] at hlv
  exact ⟨tk, by rw [limbs_norm hl hln hlv], ht⟩

theorem is_spec (t u : Tok) (n : Nat) (l : List Nat) (c : Nat) (hn : (digs 4294967296 n).length ≤ 1099511627776) (hl : l.length ≤ 1099511627776) :
    VSpec Tryz.prog F.surdref01_Num_Is c [nats t (digs 4294967296 n), nats u l] (fun r _ => r = bv (decide (l = digs 18446744073709551616 n))) := by
  refine spec_mk hm E.surdref01_Num_Is B.surdref01_Num_Is K.surdref01_Num_Is Q.surdref01_Num_Is (by rw [N.surdref01_Num_Is]; simp) ?_
  unfold C.surdref01_Num_Is R.surdref01_Num_Is
  (repeat (first | refine v_reg ?_ | refine v_last ?_ | refine vwp_seq ?_ | refine vwp_block ?_ | refine vwp_skip ?_ | refine vwp_exit ?_ | refine vwp_ret ?_ | refine v_cond ?_ | simp only [vm, ite_true, ite_false, eq_self, reduceIte, Nat.reduceEqDiff, Option.map] | refine And.intro (by omega) ?_))
  refine s_call (limbs_num t n c hn) (by simp only [vm, ite_true, ite_false, eq_self, reduceIte, Nat.reduceEqDiff, Option.map, List.map]) ?_
  rintro v c1 hc1 ⟨tk, rfl, _⟩
  have hwl : (digs 18446744073709551616 n).length ≤ 1099511627776 := by
    refine Nat.le_trans (digs_len two64 (k := (digs 4294967296 n).length) ?_) hn
    have := val_lt (lim_digs two32 n)
    rw [val_digs two32] at this
    exact Nat.lt_of_lt_of_le this (Nat.pow_le_pow_left (by decide) _)
  generalize digs 18446744073709551616 n = w at *
  by_cases g : (w.length : Int) = l.length
  rotate_left
  · (repeat (first | refine v_reg ?_ | refine v_last ?_ | refine vwp_seq ?_ | refine vwp_block ?_ | refine vwp_skip ?_ | refine vwp_exit ?_ | refine vwp_ret ?_ | refine v_cond ?_ | simp only [vm, ite_true, ite_false, eq_self, reduceIte, Nat.reduceEqDiff, Option.map, g] | refine And.intro (by omega) ?_))
    rw [decide_eq_false]
    intro e
    rw [e] at g
    exact g rfl
  have hwl2 : w.length = l.length := by omega
  (repeat (first | refine v_reg ?_ | refine v_last ?_ | refine vwp_seq ?_ | refine vwp_block ?_ | refine vwp_skip ?_ | refine vwp_exit ?_ | refine vwp_ret ?_ | refine v_cond ?_ | simp only [vm, ite_true, ite_false, eq_self, reduceIte, Nat.reduceEqDiff, Option.map, g] | refine And.intro (by omega) ?_))
  refine v_loopR (fun S => l = w ∧ S.σ = noBlk ∧ c ≤ S.c) ?_ ?_
  · refine vwp_loop (fun k S => ∃ i, k = w.length - i ∧ i ≤ w.length ∧ l.take i = w.take i ∧ S.ρ 5 = nats tk w ∧ S.ρ 1 = nats u l ∧ S.ρ 15 = iv l.length ∧ S.ρ 16 = iv i ∧ S.σ = noBlk ∧ c ≤ S.c) w.length ?_ ?_
    · refine ⟨0, by omega, by omega, ?_⟩
      simp only [vm, ite_true, ite_false, eq_self, reduceIte, Nat.reduceEqDiff, Option.map, g]
      (repeat' apply And.intro) <;> first | rfl | omega | assumption
    rintro k ⟨ρ, σ, c3⟩ ⟨i, hk, hi, ht, h5, h1, h15, h16, hσ, hc3⟩
    dsimp only at h5 h1 h15 h16 hσ hc3
    subst hσ
    by_cases g2 : (i : Int) < l.length
    · have t1 := take_snoc (l := l) (i := i) (by omega)
      have t2 := take_snoc (l := w) (i := i) (by omega)
      by_cases g3 : w.getD i 0 = l.getD i 0
      · (repeat (first | refine v_reg ?_ | refine v_last ?_ | refine vwp_seq ?_ | refine vwp_block ?_ | refine vwp_skip ?_ | refine vwp_exit ?_ | refine vwp_ret ?_ | refine v_cond ?_ | simp only [vm, ite_true, ite_false, eq_self, reduceIte, Nat.reduceEqDiff, Option.map, h5, h1, h15, h16, g2, g3] | refine And.intro (by omega) ?_))
        refine ⟨w.length - (i + 1), by omega, i + 1, ?_⟩
        have : l.take (i + 1) = w.take (i + 1) := by rw [t1, t2, ht, g3]
        (repeat' apply And.intro) <;> first | rfl | omega | assumption | exact this
      · (repeat (first | refine v_reg ?_ | refine v_last ?_ | refine vwp_seq ?_ | refine vwp_block ?_ | refine vwp_skip ?_ | refine vwp_exit ?_ | refine vwp_ret ?_ | refine v_cond ?_ | simp only [vm, ite_true, ite_false, eq_self, reduceIte, Nat.reduceEqDiff, Option.map, h5, h1, h15, h16, g2, g3] | refine And.intro (by omega) ?_))
        rw [decide_eq_false]
        intro e
        rw [e] at g3
        exact g3 rfl
    · (repeat (first | refine v_reg ?_ | refine v_last ?_ | refine vwp_seq ?_ | refine vwp_block ?_ | refine vwp_skip ?_ | refine vwp_exit ?_ | refine vwp_ret ?_ | refine v_cond ?_ | simp only [vm, ite_true, ite_false, eq_self, reduceIte, Nat.reduceEqDiff, Option.map, h5, h1, h15, h16, g2] | refine And.intro (by omega) ?_))
      have : i = w.length := by omega
      subst this
      rw [List.take_length, hwl2, List.take_length] at ht
      exact ⟨ht, hc3⟩
  rintro ⟨ρ3, σ, c5⟩ ⟨he, hσ, hc5⟩
  dsimp only at hσ hc5
  subst hσ
  (repeat (first | refine v_reg ?_ | refine v_last ?_ | refine vwp_seq ?_ | refine vwp_block ?_ | refine vwp_skip ?_ | refine vwp_exit ?_ | refine vwp_ret ?_ | refine v_cond ?_ | simp only [vm, ite_true, ite_false, eq_self, reduceIte, Nat.reduceEqDiff, Option.map] | refine And.intro (by omega) ?_))
  rw [decide_eq_true he]

end Go.Proofs.YtacodmnlnlbahaaGreatDoor
set_option linter.unusedSimpArgs false
set_option linter.unusedVariables false
set_option maxRecDepth 100000
set_option maxHeartbeats 8000000
namespace Go.Proofs.YtacodmnlnlbahaaGreatDoor
open Go.VM

def wholeL (a : List Nat) : List Nat := [10855845, 10855845] ++ a ++ [10855845, 10855845]
theorem wholeL_len (a : List Nat) : (wholeL a).length = a.length + 4 := by simp [wholeL]
theorem wholeL_at (a : List Nat) (i : Nat) (h : i < a.length + 4) : (wholeL a).getD i 0 = if 2 ≤ i ∧ i < a.length + 2 then a.getD (i - 2) 0 else 10855845 := by
  unfold wholeL
  rcases Nat.lt_or_ge i 2 with g | g
  · rw [if_neg (by omega)]
    match i, g with
    | 0, _ => rfl
    | 1, _ => rfl
  · obtain ⟨j, rfl⟩ : ∃ j, i = j + 2 := ⟨i - 2, by omega⟩
    show (a ++ [10855845, 10855845]).getD j 0 = _
    rcases Nat.lt_or_ge j a.length with g2 | g2
    · rw [if_pos (by omega), getD_append_left g2]; rfl
    · rw [if_neg (by omega)]
      obtain ⟨k, rfl⟩ : ∃ k, j = a.length + k := ⟨j - a.length, by omega⟩
      rw [List.getD_eq_getElem?_getD, List.getElem?_append_right (by omega)]
      have : k = 0 ∨ k = 1 := by omega
      rcases this with rfl | rfl
      · simp
      · simp

theorem kept_spec (t u : Tok) (a : List Nat) (c : Nat) (hna : a.length ≤ 1099511627776) : VSpec Tryz.prog F.surdref01_Kept c [nats t (wholeL a), nats u a] (fun r _ => r = bv true) := by
  refine spec_mk hm E.surdref01_Kept B.surdref01_Kept K.surdref01_Kept Q.surdref01_Kept (by rw [N.surdref01_Kept]; simp) ?_
  unfold C.surdref01_Kept R.surdref01_Kept
  have hl := wholeL_len a
  have g0 : ((a.length + 4 : Nat) : Int) = (a.length : Int) + 4 := by omega
  (repeat (first | refine v_reg ?_ | refine v_last ?_ | refine vwp_seq ?_ | refine vwp_block ?_ | refine vwp_skip ?_ | refine vwp_exit ?_ | refine vwp_ret ?_ | refine v_cond ?_ | simp only [vm, ite_true, ite_false, eq_self, reduceIte, Nat.reduceEqDiff, Option.map, hl, g0] | refine And.intro (by omega) ?_))
  refine v_loopR (fun S => S.σ = noBlk ∧ c ≤ S.c) ?_ ?_
  · refine vwp_loop (fun k S => ∃ i, k = a.length + 4 - i ∧ i ≤ a.length + 4 ∧ S.ρ 1 = nats u a ∧ S.ρ 13 = nats t (wholeL a) ∧ S.ρ 14 = iv ((a.length + 4 : Nat) : Int) ∧ S.ρ 15 = iv i ∧ S.σ = noBlk ∧ c ≤ S.c) (a.length + 4) ?_ ?_
    · refine ⟨0, by omega, by omega, ?_⟩
      simp only [vm, ite_true, ite_false, eq_self, reduceIte, Nat.reduceEqDiff, Option.map, hl, g0]
      (repeat' apply And.intro) <;> first | rfl | omega | assumption
    rintro k ⟨ρ, σ, c3⟩ ⟨i, hk, hi, h1, h13, h14, h15, hσ, hc3⟩
    dsimp only at h1 h13 h14 h15 hσ hc3
    subst hσ
    by_cases g2 : (i : Int) < ((a.length + 4 : Nat) : Int)
    · have hat := wholeL_at a i (by omega)
      by_cases g3 : (i : Int) < 2
      · rw [if_neg (by omega)] at hat
        (repeat (first | refine v_reg ?_ | refine v_last ?_ | refine vwp_seq ?_ | refine vwp_block ?_ | refine vwp_skip ?_ | refine vwp_exit ?_ | refine vwp_ret ?_ | refine v_cond ?_ | simp only [vm, ite_true, ite_false, eq_self, reduceIte, Nat.reduceEqDiff, Option.map, h1, h13, h14, h15, g2, g3, hl, hat] | refine And.intro (by omega) ?_))
        refine ⟨a.length + 4 - (i + 1), by omega, i + 1, ?_⟩
        (repeat' apply And.intro) <;> first | rfl | omega | assumption
      · by_cases g4 : (a.length : Int) + 2 ≤ (i : Int)
        · rw [if_neg (by omega)] at hat
          (repeat (first | refine v_reg ?_ | refine v_last ?_ | refine vwp_seq ?_ | refine vwp_block ?_ | refine vwp_skip ?_ | refine vwp_exit ?_ | refine vwp_ret ?_ | refine v_cond ?_ | simp only [vm, ite_true, ite_false, eq_self, reduceIte, Nat.reduceEqDiff, Option.map, h1, h13, h14, h15, g2, g3, g4, hl, hat] | refine And.intro (by omega) ?_))
          refine ⟨a.length + 4 - (i + 1), by omega, i + 1, ?_⟩
          (repeat' apply And.intro) <;> first | rfl | omega | assumption
        · rw [if_pos (by omega)] at hat
          have e1 : ((i : Int) - 2).toNat = i - 2 := by omega
          (repeat (first | refine v_reg ?_ | refine v_last ?_ | refine vwp_seq ?_ | refine vwp_block ?_ | refine vwp_skip ?_ | refine vwp_exit ?_ | refine vwp_ret ?_ | refine v_cond ?_ | simp only [vm, ite_true, ite_false, eq_self, reduceIte, Nat.reduceEqDiff, Option.map, h1, h13, h14, h15, g2, g3, g4, hl, hat, e1] | refine And.intro (by omega) ?_))
          refine ⟨a.length + 4 - (i + 1), by omega, i + 1, ?_⟩
          (repeat' apply And.intro) <;> first | rfl | omega | assumption
    · (repeat (first | refine v_reg ?_ | refine v_last ?_ | refine vwp_seq ?_ | refine vwp_block ?_ | refine vwp_skip ?_ | refine vwp_exit ?_ | refine vwp_ret ?_ | refine v_cond ?_ | simp only [vm, ite_true, ite_false, eq_self, reduceIte, Nat.reduceEqDiff, Option.map, h1, h13, h14, h15, g2] | refine And.intro (by omega) ?_))
      omega
  rintro ⟨ρ3, σ, c5⟩ ⟨hσ, hc5⟩
  dsimp only at hσ hc5
  subst hσ
  (repeat (first | refine v_reg ?_ | refine v_last ?_ | refine vwp_seq ?_ | refine vwp_block ?_ | refine vwp_skip ?_ | refine vwp_exit ?_ | refine vwp_ret ?_ | refine v_cond ?_ | simp only [vm, ite_true, ite_false, eq_self, reduceIte, Nat.reduceEqDiff, Option.map] | refine And.intro (by omega) ?_))
  omega

theorem lend_spec (t : Tok) (a : List Nat) (c : Nat) (ha : Lim 18446744073709551616 a) (hna : a.length ≤ 1099511627776) :
    VSpec Tryz.prog F.surdref01_Lend c [nats t a] (fun r c' => ∃ i, r = .tup [nats (.id i) (wholeL a), nats (.sub i) a] ∧ c ≤ i ∧ i < c') := by
  refine spec_mk hm E.surdref01_Lend B.surdref01_Lend K.surdref01_Lend Q.surdref01_Lend (by rw [N.surdref01_Lend]; simp) ?_
  unfold C.surdref01_Lend R.surdref01_Lend
  (repeat (first | refine v_reg ?_ | refine v_last ?_ | refine vwp_seq ?_ | refine vwp_block ?_ | refine vwp_skip ?_ | refine vwp_exit ?_ | refine vwp_ret ?_ | refine v_cond ?_ | simp only [vm, ite_true, ite_false, eq_self, reduceIte, Nat.reduceEqDiff, Option.map] | refine And.intro (by omega) ?_))
  refine s_mk (n := a.length + 4) (m := a.length + 4) (by simp only [vm, ite_true, ite_false, eq_self, reduceIte, Nat.reduceEqDiff, Option.map]; rfl) (by simp only [vm, ite_true, ite_false, eq_self, reduceIte, Nat.reduceEqDiff, Option.map]; rfl) (Nat.le_refl _) (by omega) ?_
  (repeat (first | refine v_reg ?_ | refine v_last ?_ | refine vwp_seq ?_ | refine vwp_block ?_ | refine vwp_skip ?_ | refine vwp_exit ?_ | refine vwp_ret ?_ | refine v_cond ?_ | simp only [vm, ite_true, ite_false, eq_self, reduceIte, Nat.reduceEqDiff, Option.map] | refine And.intro (by omega) ?_))
  refine v_loop (fun S => S.ρ 0 = nats t a ∧ S.ρ 4 = .buf c 0 (a.length + 4) (some (a.length + 4)) 1 ∧ S.σ = supd noBlk c (nblk (List.replicate (a.length + 4) 10855845)) ∧ c + 1 ≤ S.c) ?_ ?_
  · refine vwp_loop (fun k S => ∃ i, k = a.length + 4 - i ∧ i ≤ a.length + 4 ∧ S.ρ 0 = nats t a ∧ S.ρ 4 = .buf c 0 (a.length + 4) (some (a.length + 4)) 1 ∧ S.ρ 13 = iv ((a.length + 4 : Nat) : Int) ∧ S.ρ 14 = iv i ∧ S.σ = supd noBlk c (nblk (List.replicate i 10855845 ++ List.replicate (a.length + 4 - i) 0)) ∧ c + 1 ≤ S.c) (a.length + 4) ?_ ?_
    · refine ⟨0, by omega, by omega, ?_⟩
      simp only [vm, ite_true, ite_false, eq_self, reduceIte, Nat.reduceEqDiff, Option.map]
      (repeat' apply And.intro) <;> first | rfl | omega | assumption
    rintro k ⟨ρ, σ, c3⟩ ⟨i, hk, hi, h0, h4, h13, h14, hσ, hc3⟩
    dsimp only at h0 h4 h13 h14 hσ hc3
    subst hσ
    by_cases g : (i : Int) < ((a.length + 4 : Nat) : Int)
    · have hlen : (List.replicate i 10855845 ++ List.replicate (a.length + 4 - i) 0).length = a.length + 4 := by simp; omega
      have hset : (List.replicate i 10855845 ++ List.replicate (a.length + 4 - i) 0).set i 10855845 = List.replicate (i + 1) 10855845 ++ List.replicate (a.length + 4 - (i + 1)) 0 := by
        have := set_fill (List.replicate i 10855845) (a.length + 4 - (i + 1)) 10855845
        rw [List.length_replicate] at this
        rw [show a.length + 4 - i = a.length + 4 - (i + 1) + 1 by omega, this, List.replicate_succ']
      (repeat (first | refine v_reg ?_ | refine v_last ?_ | refine vwp_seq ?_ | refine vwp_block ?_ | refine vwp_skip ?_ | refine vwp_exit ?_ | refine vwp_ret ?_ | refine v_cond ?_ | simp only [vm, ite_true, ite_false, eq_self, reduceIte, Nat.reduceEqDiff, Option.map, h0, h4, h13, h14, g, hlen, hset] | refine And.intro (by omega) ?_))
      refine ⟨a.length + 4 - (i + 1), by omega, i + 1, ?_⟩
      (repeat' apply And.intro) <;> first | rfl | omega | assumption
    · have : i = a.length + 4 := by omega
      subst this
      (repeat (first | refine v_reg ?_ | refine v_last ?_ | refine vwp_seq ?_ | refine vwp_block ?_ | refine vwp_skip ?_ | refine vwp_exit ?_ | refine vwp_ret ?_ | refine v_cond ?_ | simp only [vm, ite_true, ite_false, eq_self, reduceIte, Nat.reduceEqDiff, Option.map, h0, h4, h13, h14, g] | refine And.intro (by omega) ?_))
      rw [Nat.sub_self, List.replicate_zero, List.append_nil]
      (repeat' apply And.intro) <;> first | rfl | omega | assumption
  rintro ⟨ρ3, σ, c5⟩ ⟨h0, h4, hσ, hc5⟩
  dsimp only at h0 h4 hσ hc5
  subst hσ
  (repeat (first | refine v_reg ?_ | refine v_last ?_ | refine vwp_seq ?_ | refine vwp_block ?_ | refine vwp_skip ?_ | refine vwp_exit ?_ | refine vwp_ret ?_ | refine v_cond ?_ | simp only [vm, ite_true, ite_false, eq_self, reduceIte, Nat.reduceEqDiff, Option.map, h0, h4] | refine And.intro (by omega) ?_))
  refine v_loop (fun S => S.ρ 0 = nats t a ∧ S.ρ 4 = .buf c 0 (a.length + 4) (some (a.length + 4)) 1 ∧ S.σ = supd noBlk c (nblk (wholeL a)) ∧ c + 1 ≤ S.c) ?_ ?_
  · refine vwp_loop (fun k S => ∃ i, k = a.length - i ∧ i ≤ a.length ∧ S.ρ 0 = nats t a ∧ S.ρ 4 = .buf c 0 (a.length + 4) (some (a.length + 4)) 1 ∧ S.ρ 21 = nats t a ∧ S.ρ 22 = iv a.length ∧ S.ρ 23 = iv i ∧ S.σ = supd noBlk c (nblk (([10855845, 10855845] ++ a.take i) ++ List.replicate (a.length - i + 2) 10855845)) ∧ c + 1 ≤ S.c) a.length ?_ ?_
    · refine ⟨0, by omega, by omega, ?_⟩
      have e0 : List.replicate (a.length + 4) 10855845 = ([10855845, 10855845] ++ a.take 0) ++ List.replicate (a.length - 0 + 2) 10855845 := by
        rw [show a.length + 4 = (a.length - 0 + 2) + 1 + 1 by omega, List.replicate_succ, List.replicate_succ]; simp
      simp only [vm, ite_true, ite_false, eq_self, reduceIte, Nat.reduceEqDiff, Option.map, h0, h4]
      (repeat' apply And.intro) <;> first | rfl | omega | assumption | (rw [e0])
    rintro k ⟨ρ, σ, c3⟩ ⟨i, hk, hi, h0, h4, h21, h22, h23, hσ, hc3⟩
    dsimp only at h0 h4 h21 h22 h23 hσ hc3
    subst hσ
    by_cases g : (i : Int) < a.length
    · have hti : (a.take i).length = i := by simp; omega
      have hlen : (([10855845, 10855845] ++ a.take i) ++ List.replicate (a.length - i + 2) 10855845).length = a.length + 4 := by simp; omega
      have hset : ∀ v, (([10855845, 10855845] ++ a.take i) ++ List.replicate (a.length - i + 2) 10855845).set (i + 2) v = (([10855845, 10855845] ++ a.take i) ++ [v]) ++ List.replicate (a.length - (i + 1) + 2) 10855845 := fun v => by
        have e : ([10855845, 10855845] ++ a.take i).length = i + 2 := by simp; omega
        rw [show a.length - i + 2 = (a.length - (i + 1) + 2) + 1 by omega, List.replicate_succ]
        conv => lhs; rw [← e]
        rw [set_at]; simp
      have e2 : ((i : Int) + 2).toNat = i + 2 := by omega
      have hts := take_snoc (l := a) (i := i) (by omega)
      (repeat (first | refine v_reg ?_ | refine v_last ?_ | refine vwp_seq ?_ | refine vwp_block ?_ | refine vwp_skip ?_ | refine vwp_exit ?_ | refine vwp_ret ?_ | refine v_cond ?_ | simp only [vm, ite_true, ite_false, eq_self, reduceIte, Nat.reduceEqDiff, Option.map, h0, h4, h21, h22, h23, g, e2, hlen, hset] | refine And.intro (by omega) ?_))
      refine ⟨a.length - (i + 1), by omega, i + 1, ?_⟩
      rw [hts, ← List.append_assoc [10855845, 10855845]]
      (repeat' apply And.intro) <;> first | rfl | omega | assumption
    · have : i = a.length := by omega
      subst this
      (repeat (first | refine v_reg ?_ | refine v_last ?_ | refine vwp_seq ?_ | refine vwp_block ?_ | refine vwp_skip ?_ | refine vwp_exit ?_ | refine vwp_ret ?_ | refine v_cond ?_ | simp only [vm, ite_true, ite_false, eq_self, reduceIte, Nat.reduceEqDiff, Option.map, h0, h4, h21, h22, h23, g] | refine And.intro (by omega) ?_))
      have e0 : ([10855845, 10855845] ++ a.take a.length) ++ List.replicate (a.length - a.length + 2) 10855845 = wholeL a := by rw [List.take_length, Nat.sub_self]; rfl
      rw [e0]
      (repeat' apply And.intro) <;> first | rfl | omega | assumption
  rintro ⟨ρ4, σ, c6⟩ ⟨h0, h4, hσ, hc6⟩
  dsimp only at h0 h4 hσ hc6
  subst hσ
  have hl := wholeL_len a
  refine v_freeze 4 (t := c) (off := 0) (n := a.length + 4) (cap := some (a.length + 4)) (l := wholeL a) (by simp only [vm, ite_true, ite_false, eq_self, reduceIte, Nat.reduceEqDiff, Option.map, h4]) (by simp only [vm, ite_true, ite_false, eq_self, reduceIte, Nat.reduceEqDiff, Option.map]) (by omega) (by omega) ?_
  rw [List.drop_zero, show (wholeL a).take (a.length + 4) = wholeL a from List.take_of_length_le (by omega)]
  have e1 : (2 : Int).toNat = 2 := rfl
  have e2 : ((a.length : Int) + 2).toNat = a.length + 2 := by omega
  have e3 : ((wholeL a).drop 2).take (a.length + 2 - 2) = a := by
    show (a ++ [10855845, 10855845]).take (a.length + 2 - 2) = a
    rw [Nat.add_sub_cancel, List.take_append_of_le_length (Nat.le_refl _), List.take_length]
  have e4 : Tok.cut 2 (.id c) = .sub c := rfl
  (repeat (first | refine v_reg ?_ | refine v_last ?_ | refine vwp_seq ?_ | refine vwp_block ?_ | refine vwp_skip ?_ | refine vwp_exit ?_ | refine vwp_ret ?_ | refine v_cond ?_ | simp only [vm, ite_true, ite_false, eq_self, reduceIte, Nat.reduceEqDiff, Option.map, h0, hl, e1, e2, e3, e4] | refine And.intro (by omega) ?_))
  exact ⟨c, rfl, by omega, by omega⟩
end Go.Proofs.YtacodmnlnlbahaaGreatDoor
set_option linter.unusedSimpArgs false
set_option linter.unusedVariables false
set_option maxRecDepth 100000
set_option maxHeartbeats 8000000
namespace Go.Proofs.YtacodmnlnlbahaaGreatDoor
open Go.VM

theorem shl32_low {x s : Nat} (hs : s ≤ 31) (hx : x < 4294967296) : x * 2 ^ s % 18446744073709551616 = x * 2 ^ s ∧ x * 2 ^ s % 4294967296 + 2 ^ s ≤ 4294967296 ∧ x * 2 ^ s / 4294967296 < 2 ^ s ∧ x * 2 ^ s / 4294967296 % 18446744073709551616 = x * 2 ^ s / 4294967296 ∧ 2 ^ s ≤ 2147483648 := by
  have h31 : 2 ^ s ≤ 2 ^ 31 := Nat.pow_le_pow_right (by decide) hs
  have hp : 0 < 2 ^ s := Nat.two_pow_pos s
  have hlt : x * 2 ^ s < 4294967296 * 2 ^ s := Nat.mul_lt_mul_of_pos_right hx hp
  have h32 : 4294967296 = 2 ^ (32 - s) * 2 ^ s := by rw [← Nat.pow_add, show 32 - s + s = 32 by omega]
  have hlow : x * 2 ^ s % 4294967296 + 2 ^ s ≤ 4294967296 := by
    have e : x * 2 ^ s % 4294967296 = (x % 2 ^ (32 - s)) * 2 ^ s := by rw [h32, Nat.mul_mod_mul_right]
    rw [e, ← Nat.succ_mul, h32]
    exact Nat.mul_le_mul_right _ (Nat.mod_lt _ (Nat.two_pow_pos _))
  have hdiv : x * 2 ^ s / 4294967296 < 2 ^ s := Nat.div_lt_of_lt_mul hlt
  have h1 : x * 2 ^ s < 18446744073709551616 := by
    have : 4294967296 * 2 ^ s ≤ 4294967296 * 2 ^ 31 := Nat.mul_le_mul_left _ h31
    omega
  exact ⟨Nat.mod_eq_of_lt h1, hlow, hdiv, Nat.mod_eq_of_lt (by omega), by omega⟩

theorem shl32_spec (t : Tok) (a : List Nat) (n c : Nat) (ha : Lim 4294967296 a) (hna : a.length ≤ 1099511627776) (hn : n ≤ 1099511627776) :
    VSpec Tryz.prog F.surdref01_Shl c [nats t a, iv n] (fun r c' => (a = [] ∧ r = nil1) ∨ ∃ i, r = nats (.id i) (digs 4294967296 (val 4294967296 a * 2 ^ n)) ∧ c ≤ i ∧ i < c') := by
  refine spec_mk hm E.surdref01_Shl B.surdref01_Shl K.surdref01_Shl Q.surdref01_Shl (by rw [N.surdref01_Shl]; simp) ?_
  unfold C.surdref01_Shl R.surdref01_Shl
  by_cases g0 : (a.length : Int) = 0
  · (repeat (first | refine v_reg ?_ | refine v_last ?_ | refine vwp_seq ?_ | refine vwp_block ?_ | refine vwp_skip ?_ | refine vwp_exit ?_ | refine vwp_ret ?_ | refine v_cond ?_ | simp only [vm, ite_true, ite_false, eq_self, reduceIte, Nat.reduceEqDiff, Option.map, g0] | refine And.intro (by omega) ?_))
    exact .inl (List.eq_nil_of_length_eq_zero (by omega))
  obtain ⟨q, hq⟩ : ∃ q, q = n / 32 := ⟨_, rfl⟩
  obtain ⟨s, hs⟩ : ∃ s, s = n % 32 := ⟨_, rfl⟩
  have hs31 : s ≤ 31 := by omega
  have eq1 : (n : Int) / 32 = (q : Int) := by omega
  have es1 : (n : Int) % 32 = (s : Int) := by omega
  have el : (a.length : Int) + (q : Int) + 1 = ((q + a.length + 1 : Nat) : Int) := by omega
  (repeat (first | refine v_reg ?_ | refine v_last ?_ | refine vwp_seq ?_ | refine vwp_block ?_ | refine vwp_skip ?_ | refine vwp_exit ?_ | refine vwp_ret ?_ | refine v_cond ?_ | simp only [vm, ite_true, ite_false, eq_self, reduceIte, Nat.reduceEqDiff, Option.map, g0, eq1, el] | refine And.intro (by omega) ?_))
  refine s_mk (n := q + a.length + 1) (m := q + a.length + 1) (by simp only [vm, ite_true, ite_false, eq_self, reduceIte, Nat.reduceEqDiff, Option.map]) (by simp only [vm, ite_true, ite_false, eq_self, reduceIte, Nat.reduceEqDiff, Option.map]) (Nat.le_refl _) (by omega) ?_
  (repeat (first | refine v_reg ?_ | refine v_last ?_ | refine vwp_seq ?_ | refine vwp_block ?_ | refine vwp_skip ?_ | refine vwp_exit ?_ | refine vwp_ret ?_ | refine v_cond ?_ | simp only [vm, ite_true, ite_false, eq_self, reduceIte, Nat.reduceEqDiff, Option.map, es1] | refine And.intro (by omega) ?_))
  refine v_loop (fun S => ∃ w, w.length = q + a.length + 1 ∧ Lim 4294967296 w ∧ val 4294967296 w = val 4294967296 a * 2 ^ n ∧ S.ρ 5 = .buf c 0 (q + a.length + 1) (some (q + a.length + 1)) 1 ∧ S.σ = supd noBlk c (nblk w) ∧ c + 1 ≤ S.c) ?_ ?_
  · refine vwp_loop (fun k S => ∃ i w o, k = a.length - i ∧ i ≤ a.length ∧ w.length = i ∧ Lim 4294967296 w ∧ o < 2 ^ s ∧ val 4294967296 (w ++ [o]) = val 4294967296 (a.take i) * 2 ^ s ∧ S.ρ 1 = iv (n : Int) ∧ S.ρ 6 = iv (s : Int) ∧ S.ρ 21 = nats t a ∧ S.ρ 22 = iv (a.length : Int) ∧ S.ρ 23 = iv (i : Int) ∧ S.ρ 5 = .buf c 0 (q + a.length + 1) (some (q + a.length + 1)) 1 ∧ S.σ = supd noBlk c (nblk ((List.replicate q 0 ++ w) ++ o :: List.replicate (a.length - i) 0)) ∧ c + 1 ≤ S.c) a.length ?_ ?_
    · refine ⟨0, [], 0, by omega, by omega, ?_⟩
      simp only [vm, ite_true, ite_false, eq_self, reduceIte, Nat.reduceEqDiff, Option.map]
      have e0 : List.replicate (q + a.length + 1) 0 = (List.replicate q 0 ++ []) ++ 0 :: List.replicate (a.length - 0) 0 := by
        rw [List.append_nil, ← List.replicate_succ, List.replicate_append_replicate]; rfl
      rw [e0]
      (repeat' apply And.intro) <;> first | rfl | omega | assumption | exact Lim.nil | exact Nat.two_pow_pos s | (simp [val]; done)
    rintro k ⟨ρ2, σ, c4⟩ ⟨i, w, o, hk, hi, hw, hlw, ho, hinv, h1, h6, h21, h22, h23, h5, hσ, hc4⟩
    dsimp only at h1 h6 h21 h22 h23 h5 hσ hc4
    subst hσ
    by_cases g : (i : Int) < a.length
    · have hi' : i < a.length := by omega
      have hxi := ha.getD (i := i) (by decide)
      have hax := val_take' 4294967296 a i
      obtain ⟨m1, m2, m3, m4, m5⟩ := shl32_low hs31 hxi
      have hql : (List.replicate q 0 ++ w).length = i + q := by simp [hw]; omega
      have eiq : ((i : Int) + (q : Int)).toNat = i + q := by omega
      have eiq1 : ((i : Int) + (q : Int) + 1).toNat = i + q + 1 := by omega
      have hlen : ((List.replicate q 0 ++ w) ++ o :: List.replicate (a.length - i) 0).length = q + a.length + 1 := by simp [hw]; omega
      have hget : ((List.replicate q 0 ++ w) ++ o :: List.replicate (a.length - i) 0).getD (i + q) 0 = o := by rw [← hql]; exact getD_at _ _ _
      have hset1 : ∀ v, ((List.replicate q 0 ++ w) ++ o :: List.replicate (a.length - i) 0).set (i + q) v = (List.replicate q 0 ++ w) ++ v :: List.replicate (a.length - i) 0 := fun v => by rw [← hql]; exact set_at _ _ _ _
      have hset2 : ∀ v v', ((List.replicate q 0 ++ w) ++ v :: List.replicate (a.length - i) 0).set (i + q + 1) v' = (List.replicate q 0 ++ (w ++ [v])) ++ v' :: List.replicate (a.length - (i + 1)) 0 := fun v v' => by
        have e : (List.replicate q 0 ++ w) ++ v :: List.replicate (a.length - i) 0 = (List.replicate q 0 ++ (w ++ [v])) ++ 0 :: List.replicate (a.length - (i + 1)) 0 := by
          rw [show a.length - i = a.length - (i + 1) + 1 by omega, List.replicate_succ]; simp
        rw [e, show i + q + 1 = (List.replicate q 0 ++ (w ++ [v])).length by simp [hw]; omega]
        exact set_at _ _ _ _
      have hlen2 : ∀ v, ((List.replicate q 0 ++ w) ++ v :: List.replicate (a.length - i) 0).length = q + a.length + 1 := fun v => by simp [hw]; omega
      have emin : min s 64 = s := by omega
      have hod : (o + a.getD i 0 * 2 ^ s % 4294967296) % 18446744073709551616 = o + a.getD i 0 * 2 ^ s % 4294967296 := Nat.mod_eq_of_lt (by omega)
      have hstep := shl_step (b := 4294967296) (lo := a.getD i 0 * 2 ^ s % 4294967296) (hi := a.getD i 0 * 2 ^ s / 4294967296) (x := a.getD i 0) (P := 2 ^ s) hw hinv (by omega)
      (repeat (first | refine v_reg ?_ | refine v_last ?_ | refine vwp_seq ?_ | refine vwp_block ?_ | refine vwp_skip ?_ | refine vwp_exit ?_ | refine vwp_ret ?_ | refine v_cond ?_ | simp only [vm, ite_true, ite_false, eq_self, reduceIte, Nat.reduceEqDiff, Option.map, h1, h6, h21, h22, h23, h5, g, eq1, eiq, eiq1, hlen, hlen2, hget, hset1, hset2, emin, m1, m4, hod] | refine And.intro (by omega) ?_))
      refine ⟨a.length - (i + 1), by omega, i + 1, w ++ [o + a.getD i 0 * 2 ^ s % 4294967296], a.getD i 0 * 2 ^ s / 4294967296, ?_⟩
      have key : val 4294967296 ((w ++ [o + a.getD i 0 * 2 ^ s % 4294967296]) ++ [a.getD i 0 * 2 ^ s / 4294967296]) = val 4294967296 (a.take (i + 1)) * 2 ^ s := by
        rw [hstep, hax, Nat.add_mul, Nat.mul_assoc]
      have hlw2 := lim_snoc (v := o + a.getD i 0 * 2 ^ s % 4294967296) hlw (by omega)
      (repeat' apply And.intro) <;> first | rfl | exact key | exact hlw2 | exact m3 | (simp [hw]; done) | omega | assumption
    · have hi' : i = a.length := by omega
      subst hi'
      (repeat (first | refine v_reg ?_ | refine v_last ?_ | refine vwp_seq ?_ | refine vwp_block ?_ | refine vwp_skip ?_ | refine vwp_exit ?_ | refine vwp_ret ?_ | refine v_cond ?_ | simp only [vm, ite_true, ite_false, eq_self, reduceIte, Nat.reduceEqDiff, Option.map, h1, h6, h21, h22, h23, h5, g] | refine And.intro (by omega) ?_))
      rw [List.take_length] at hinv
      refine ⟨List.replicate q 0 ++ (w ++ [o]), ?_⟩
      have hwl : Lim 4294967296 (w ++ [o]) := lim_snoc hlw (by have := Nat.pow_le_pow_right (n := 2) (by decide) hs31; omega)
      have key : val 4294967296 (List.replicate q 0 ++ (w ++ [o])) = val 4294967296 a * 2 ^ n := by
        rw [val_zeros, hinv, pow32, Nat.mul_left_comm, ← Nat.pow_add, show 32 * q + s = n by omega]
      have e0 : (List.replicate q 0 ++ w) ++ o :: List.replicate (a.length - a.length) 0 = List.replicate q 0 ++ (w ++ [o]) := by simp
      rw [e0]
      (repeat' apply And.intro) <;> first | rfl | omega | assumption | exact key | exact (Lim.replicate (by decide)).append hwl | (simp [hw]; omega)
  rintro ⟨ρ3, σ, c5⟩ ⟨w, hw, hlw, hvw, h5, hσ, hc5⟩
  dsimp only at h5 hσ hc5
  subst hσ
  refine v_freeze 5 (t := c) (off := 0) (n := q + a.length + 1) (cap := some (q + a.length + 1)) (l := w) (by simp only [vm, ite_true, ite_false, eq_self, reduceIte, Nat.reduceEqDiff, Option.map, h5]) (by simp only [vm, ite_true, ite_false, eq_self, reduceIte, Nat.reduceEqDiff, Option.map]) (by omega) (by omega) ?_
  rw [List.drop_zero, show w.take (q + a.length + 1) = w from List.take_of_length_le (by omega)]
  (repeat (first | refine v_reg ?_ | refine v_last ?_ | refine vwp_seq ?_ | refine vwp_block ?_ | refine vwp_skip ?_ | refine vwp_exit ?_ | refine vwp_ret ?_ | refine v_cond ?_ | simp only [vm, ite_true, ite_false, eq_self, reduceIte, Nat.reduceEqDiff, Option.map] | refine And.intro (by omega) ?_))
  refine s_call (norm32_spec (.id c) w c5 hlw (by omega)) (by simp only [vm, ite_true, ite_false, eq_self, reduceIte, Nat.reduceEqDiff, Option.map, List.map]) ?_
  rintro v c6 hc6 rfl
  rw [hvw]
  (repeat (first | refine v_reg ?_ | refine v_last ?_ | refine vwp_seq ?_ | refine vwp_block ?_ | refine vwp_skip ?_ | refine vwp_exit ?_ | refine vwp_ret ?_ | refine v_cond ?_ | simp only [vm, ite_true, ite_false, eq_self, reduceIte, Nat.reduceEqDiff, Option.map] | refine And.intro (by omega) ?_))
  exact .inr ⟨c, rfl, by omega, by omega⟩
end Go.Proofs.YtacodmnlnlbahaaGreatDoor
set_option linter.unusedSimpArgs false
set_option linter.unusedVariables false
set_option maxRecDepth 100000
set_option maxHeartbeats 8000000
namespace Go.Proofs.YtacodmnlnlbahaaGreatDoor
open Go.VM

theorem shlR (t : Tok) (m n c : Nat) (hm : bl m ≤ 68719476736) (hm0 : 0 < m) (hn : n ≤ 1099511627776) : VSpec Tryz.prog F.surdref01_Shl c [nats t (digs 4294967296 m), iv n] (fun r c' => RefR c c' (m * 2 ^ n) r) := by
  have h := shl32_spec t (digs 4294967296 m) n c (lim_digs two32 m) (Nat.le_trans (len32_bl (k := 2147483648) (by omega)) (by decide)) hn
  rw [val_digs two32] at h
  refine h.mono ?_
  rintro r c' (⟨h1, _⟩ | h1)
  · exact absurd ((digs_eq_nil two32).1 h1) (by omega)
  · exact h1

end Go.Proofs.YtacodmnlnlbahaaGreatDoor
set_option linter.unusedSimpArgs false
set_option linter.unusedVariables false
set_option maxRecDepth 100000
set_option maxHeartbeats 8000000
namespace Go.VM
end Go.VM
namespace Go.Proofs.YtacodmnlnlbahaaGreatDoor
open Go.VM

theorem u_and1 {b : Bool} {x : Nat} : sbin .and b (nv x) (nv 1) = some (nv (x % 2)) := by
  have e : (BitVec.ofInt 64 (x : Int) &&& BitVec.ofInt 64 1).toNat = x % 2 := by
    simp only [BitVec.ofInt_natCast, BitVec.toNat_and, BitVec.toNat_ofNat]
    have h := Nat.and_two_pow_sub_one_eq_mod (x % 2 ^ 64) 1
    show (x % 2 ^ 64) &&& (2 ^ 1 - 1) = _
    rw [h]
    omega
  show some (V.lit (.int .u64 (IntKind.u64.wrap ((BitVec.ofInt 64 (x : Int) &&& BitVec.ofInt 64 1).toNat : Int)))) = _
  rw [e, wrap_u64 (by omega) (by omega)]

end Go.Proofs.YtacodmnlnlbahaaGreatDoor
namespace Go.Proofs.YtacodmnlnlbahaaGreatDoor
open Go.VM

theorem zero_spec (t : Tok) (n c : Nat) (hn : (digs 4294967296 n).length ≤ 4398046511104) : VSpec Tryz.prog F.surdref01_Num_Zero c [nats t (digs 4294967296 n)] (fun r _ => r = bv (decide (n = 0))) := by
  refine spec_mk hm E.surdref01_Num_Zero B.surdref01_Num_Zero K.surdref01_Num_Zero Q.surdref01_Num_Zero (by rw [N.surdref01_Num_Zero]; simp) ?_
  unfold C.surdref01_Num_Zero R.surdref01_Num_Zero
  have hz := digs_eq_nil two32 (n := n)
  (repeat (first | refine v_reg ?_ | refine v_last ?_ | refine vwp_seq ?_ | refine vwp_block ?_ | refine vwp_skip ?_ | refine vwp_exit ?_ | refine vwp_ret ?_ | refine v_cond ?_ | simp only [vm, ite_true, ite_false, eq_self, reduceIte, Nat.reduceEqDiff, Option.map] | refine And.intro (by omega) ?_))
  by_cases g : n = 0
  · rw [hz.2 g, g]; rfl
  · have h1 : ¬ digs 4294967296 n = [] := fun e => g (hz.1 e)
    have h2 : 0 < (digs 4294967296 n).length := List.length_pos_iff.2 h1
    have h3 : decide (((digs 4294967296 n).length : Int) = 0) = decide (n = 0) := by rw [decide_eq_false (show ¬ ((digs 4294967296 n).length : Int) = 0 by omega), decide_eq_false g]
    rw [h3]
end Go.Proofs.YtacodmnlnlbahaaGreatDoor
set_option linter.unusedVariables false
namespace Go.VM
def tz (n : Nat) : Nat := if h : n = 0 then 0 else if n % 2 = 1 then 0 else tz (n / 2) + 1
termination_by n
decreasing_by omega
theorem tz_zero : tz 0 = 0 := by rw [tz]; rfl
theorem tz_odd {n : Nat} (h : n % 2 = 1) : tz n = 0 := by
  rw [tz, dif_neg (by omega), if_pos h]
theorem tz_even {n : Nat} (h0 : n ≠ 0) (h : n % 2 = 0) : tz n = tz (n / 2) + 1 := by
  rw [tz, dif_neg h0, if_neg (by omega)]
theorem tz_two (n : Nat) (h : n ≠ 0) : tz (2 * n) = tz n + 1 := by
  rw [tz_even (by omega) (by omega), Nat.mul_div_cancel_left _ (by decide)]
theorem tz_pow {n : Nat} (h : n ≠ 0) : ∀ k, tz (2 ^ k * n) = k + tz n
  | 0 => by simp
  | k + 1 => by
    have hp : 0 < 2 ^ k := Nat.two_pow_pos k
    have e : 2 ^ (k + 1) * n = 2 * (2 ^ k * n) := by rw [Nat.pow_succ, Nat.mul_comm (2 ^ k) 2, Nat.mul_assoc]
    rw [e, tz_two _ (Nat.mul_ne_zero (by omega) h), tz_pow h k]
    omega
def od (n : Nat) : Nat := n / 2 ^ tz n
theorem tz_od {n : Nat} (h : n ≠ 0) : n = 2 ^ tz n * od n ∧ od n % 2 = 1 := by
  induction n using Nat.strongRecOn with
  | _ n ih =>
    rcases Nat.mod_two_eq_zero_or_one n with g | g
    · obtain ⟨m, rfl⟩ : ∃ m, n = 2 * m := ⟨n / 2, by omega⟩
      have hm : m ≠ 0 := by omega
      obtain ⟨h1, h2⟩ := ih m (by omega) hm
      have e := tz_two m hm
      have e2 : od (2 * m) = od m := by
        unfold od
        rw [e, Nat.pow_succ, Nat.mul_comm (2 ^ tz m) 2, Nat.mul_div_mul_left _ _ (by decide)]
      rw [e2, e]
      refine ⟨?_, h2⟩
      rw [Nat.pow_succ, Nat.mul_comm (2 ^ tz m) 2, Nat.mul_assoc, ← h1]
    · have e := tz_odd g
      unfold od
      rw [e]
      simp [g]
theorem tz_uniq {n k m : Nat} (h : n = 2 ^ k * m) (hm : m % 2 = 1) : tz n = k ∧ od n = m := by
  have e : tz n = k := by rw [h, tz_pow (by omega), tz_odd hm]; rfl
  refine ⟨e, ?_⟩
  unfold od
  rw [e, h, Nat.mul_div_cancel_left _ (Nat.two_pow_pos k)]
theorem od_pos {n : Nat} (h : n ≠ 0) : 0 < od n := by have := (tz_od h).2; omega
theorem tz_lt {n k : Nat} (h0 : n ≠ 0) (h : n < 2 ^ k) : tz n < k := by
  obtain ⟨h1, h2⟩ := tz_od h0
  have h3 : 2 ^ tz n ≤ n := by
    have := Nat.mul_le_mul_left (2 ^ tz n) (od_pos h0)
    omega
  exact (Nat.pow_lt_pow_iff_right (by decide : 1 < 2)).1 (Nat.lt_of_le_of_lt h3 h)
theorem tz_low {x r k : Nat} (hx0 : x ≠ 0) (hx : x < 2 ^ k) : tz (x + 2 ^ k * r) = tz x := by
  obtain ⟨h1, h2⟩ := tz_od hx0
  have hk := tz_lt hx0 hx
  obtain ⟨j, hj⟩ : ∃ j, k = tz x + 1 + j := ⟨k - tz x - 1, by omega⟩
  refine (tz_uniq (n := x + 2 ^ k * r) (k := tz x) (m := od x + 2 * (2 ^ j * r)) ?_ (by omega)).1
  have e : 2 ^ k * r = 2 ^ tz x * (2 * (2 ^ j * r)) := by
    rw [hj, Nat.pow_add, Nat.pow_succ]; ac_rfl
  rw [Nat.mul_add, ← h1, e]
theorem low_bit {x k : Nat} (h0 : 0 < x) (hk : x < 2 ^ k) : x &&& (2 ^ k - x) = 2 ^ tz x := by
  obtain ⟨h1, h2⟩ := tz_od (n := x) (by omega)
  obtain ⟨y, rfl⟩ : ∃ y, x = y + 1 := ⟨x - 1, by omega⟩
  obtain ⟨j, hj⟩ : ∃ j, od (y + 1) = 2 * j + 1 := ⟨od (y + 1) / 2, by omega⟩
  have ht := tz_lt (n := y + 1) (by omega) hk
  generalize tz (y + 1) = t at *
  generalize od (y + 1) = o at *
  subst hj
  have hp : 0 < 2 ^ t := Nat.two_pow_pos t
  have ey : y = 2 ^ t * (2 * j) + (2 ^ t - 1) := by
    have : 2 ^ t * (2 * j + 1) = 2 ^ t * (2 * j) + 2 ^ t := by rw [Nat.mul_add, Nat.mul_one]
    omega
  have ex : y + 1 = 2 ^ t * (2 * j + 1) + 0 := by omega
  refine Nat.eq_of_testBit_eq fun i => ?_
  rw [Nat.testBit_and, Nat.testBit_two_pow_sub_succ (by omega), Nat.testBit_two_pow]
  rw [show (y + 1).testBit i = (2 ^ t * (2 * j + 1) + 0).testBit i by rw [← ex], show y.testBit i = (2 ^ t * (2 * j) + (2 ^ t - 1)).testBit i by rw [← ey]]
  rw [Nat.testBit_two_pow_mul_add _ (by omega), Nat.testBit_two_pow_mul_add _ (by omega)]
  by_cases g : i < t
  · rw [if_pos g, if_pos g]
    have : ¬ t = i := by omega
    simp [this]
  · rw [if_neg g, if_neg g]
    rcases Nat.lt_or_ge t i with g2 | g2
    · obtain ⟨d, hd⟩ : ∃ d, i - t = d + 1 := ⟨i - t - 1, by omega⟩
      have e1 : (2 * j + 1).testBit (d + 1) = j.testBit d := by rw [Nat.testBit_succ, show (2 * j + 1) / 2 = j by omega]
      have e2 : (2 * j).testBit (d + 1) = j.testBit d := by rw [Nat.testBit_succ, show (2 * j) / 2 = j by omega]
      have : ¬ t = i := by omega
      rw [hd, e1, e2]
      cases j.testBit d <;> simp [this]
    · have : t = i := by omega
      subst this
      have hk2 : t < k := ht
      simp [hk2, Nat.testBit_zero]
end Go.VM
namespace Go.VM
def dbTab : List Nat := [0, 1, 56, 2, 57, 49, 28, 3, 61, 58, 42, 50, 38, 29, 17, 4, 62, 47, 59, 36, 45, 43, 51, 22, 53, 39, 33, 30, 24, 18, 12, 5, 63, 55, 48, 27, 60, 41, 37, 16, 46, 35, 44, 21, 52, 32, 23, 11, 54, 26, 40, 15, 34, 20, 31, 10, 25, 14, 19, 9, 13, 8, 7, 6]
theorem db_ok : ∀ k, k < 64 → (2 ^ k * 285870213051353865 % 18446744073709551616) / 288230376151711744 < 64 ∧ dbTab[(2 ^ k * 285870213051353865 % 18446744073709551616) / 288230376151711744]? = some k := by decide
theorem db_tz {x : Nat} (h0 : 0 < x) (hx : x < 18446744073709551616) : ((x &&& (18446744073709551616 - x)) * 285870213051353865 % 18446744073709551616) / 288230376151711744 < 64 ∧ dbTab[((x &&& (18446744073709551616 - x)) * 285870213051353865 % 18446744073709551616) / 288230376151711744]? = some (tz x) := by
  have h := low_bit (k := 64) h0 hx
  have h2 : x &&& (18446744073709551616 - x) = 2 ^ tz x := h
  rw [h2]
  exact db_ok (tz x) (tz_lt (k := 64) (by omega) hx)
end Go.VM
set_option linter.unusedVariables false
set_option linter.unusedSimpArgs false
namespace Go.VM

def boxS (P : Program) (dr : Bool) (c0 : Nat) (a : Option (List V)) (i : Nat) (ρ : Nat → V) (σ : Nat → Option Blk) (c : Nat) (r : List VO) (K : VS → Prop) : Prop := ∃ l, a = some l ∧ wps P dr c0 r ⟨upd ρ i (.ptr c 0), supd σ c (some ⟨l, true⟩), c + 1⟩ K
def boxAS (P : Program) (dr : Bool) (c0 n : Nat) (b : Option Blk) (a : Option (List V)) (i : Nat) (ρ : Nat → V) (σ : Nat → Option Blk) (c : Nat) (r : List VO) (K : VS → Prop) : Prop := b = none ∧ ∃ l, a = some l ∧ l.length = n ∧ wps P dr c0 r ⟨upd ρ i (.ptr c 0), supd σ c (some ⟨l, true⟩), c + 1⟩ K
section
variable {P : Program} {dr : Bool} {c0 : Nat} {S : VS} {r : List VO} {K : VS → Prop} {d : Option Nat} {i c : Nat} {ρ : Nat → V} {σ : Nat → Option Blk}
theorem q_alloc {z : List Value} : wps P dr c0 (⟨some i, .alloc z, none⟩ :: r) ⟨ρ, σ, c⟩ K = wps P dr c0 r ⟨upd ρ i (.ptr c 0), supd σ c (some ⟨vlits z, true⟩), c + 1⟩ K := by
  refine propext ⟨fun h => ?_, fun h => s_alloc h⟩
  obtain ⟨v, σ', c', kt, h, hk⟩ := opS_eff h
  cases h with
  | pure h => simp [vpure] at h
  | alloc => exact hk
theorem q_box {x : X} : wps P dr c0 (⟨some i, .box x, none⟩ :: r) ⟨ρ, σ, c⟩ K = boxS P dr c0 (x.ev ρ).cells i ρ σ c r K := by
  refine propext ⟨fun h => ?_, fun ⟨l, h1, h2⟩ => s_box h1 h2⟩
  obtain ⟨v, σ', c', kt, h, hk⟩ := opS_eff h
  cases h with
  | pure h => simp [vpure] at h
  | box h => exact ⟨_, h, hk⟩
theorem q_boxA {n : Nat} {x : X} : wps P dr c0 (⟨some i, .boxA n x, none⟩ :: r) ⟨ρ, σ, c⟩ K = boxAS P dr c0 n (σ c) (x.ev ρ).cells i ρ σ c r K := by
  refine propext ⟨fun h => ?_, fun ⟨h0, l, h1, hn, h2⟩ => s_boxA h1 hn h0 h2⟩
  obtain ⟨v, σ', c', kt, h, hk⟩ := opS_eff h
  cases h with
  | pure h => simp [vpure] at h
  | boxA hf h hn => exact ⟨hf, _, h, hn, hk⟩
theorem all_offL {p : V} {e : Nat → V} : ∀ {ys : List Nat}, (∀ i ∈ ys, V.offp p (e i)) → offL p (ys.map e)
  | [], _ => trivial
  | y :: ys, h => ⟨h y List.mem_cons_self, all_offL fun i hi => h i (List.mem_cons_of_mem _ hi)⟩
theorem q_storeA {n : Nat} {x y : X} {ys : List Nat} : wps P dr c0 (⟨none, .storeA n x y ys, none⟩ :: r) ⟨ρ, σ, c⟩ K = offS P dr c0 (x.ev ρ) (ys.map ρ) (vstore σ n (x.ev ρ) (y.ev ρ)) ρ c r K := by
  refine propext ⟨fun h => ?_, fun h => s_storeA h⟩
  obtain ⟨v, σ', c', kt, h, hk⟩ := opS_eff h
  cases h with
  | pure h => simp [vpure] at h
  | storeA ha h => exact ⟨all_offL ha, _, h, hk⟩
theorem offS_eq {p : V} {l : List V} {a : Option (Nat → Option Blk)} : offS P dr c0 p l a ρ c r K = (offL p l ∧ putS P dr c0 a ρ c r K) := Eq.trans rfl rfl
theorem boxS_some {l : List V} : boxS P dr c0 (some l) i ρ σ c r K = wps P dr c0 r ⟨upd ρ i (.ptr c 0), supd σ c (some ⟨l, true⟩), c + 1⟩ K := by simp [boxS]
theorem boxAS_some {n : Nat} {l : List V} : boxAS P dr c0 n none (some l) i ρ σ c r K = (l.length = n ∧ wps P dr c0 r ⟨upd ρ i (.ptr c 0), supd σ c (some ⟨l, true⟩), c + 1⟩ K) := by simp [boxAS]
theorem boxS_congr {a b : Option (List V)} (h : a = b) : boxS P dr c0 a i ρ σ c r K = boxS P dr c0 b i ρ σ c r K := by rw [h]
theorem boxAS_congr {n : Nat} {a b : Option (List V)} {p q : Option Blk} (h : a = b) (g : p = q) : boxAS P dr c0 n p a i ρ σ c r K = boxAS P dr c0 n q b i ρ σ c r K := by rw [h, g]
theorem offS_congr {p q : V} {l m : List V} {a b : Option (Nat → Option Blk)} (h : p = q) (g : l = m) (e : a = b) : offS P dr c0 p l a ρ c r K = offS P dr c0 q m b ρ c r K := by rw [h, g, e]
end
attribute [congr] boxS_congr boxAS_congr offS_congr

theorem cells_agg {l : List V} : V.cells (.agg l) = some l := Eq.trans rfl rfl
theorem cells_sl {t : Tok} {n : Nat} {l : List V} : V.cells (.sl t n l) = some [.sl t n l] := Eq.trans rfl rfl
theorem cells_int {k : IntKind} {n : Int} : V.cells (.lit (.int k n)) = some [.lit (.int k n)] := Eq.trans rfl rfl
theorem cells_bool {b : Bool} : V.cells (.lit (.bool b)) = some [.lit (.bool b)] := Eq.trans rfl rfl
theorem cellsB_agg {l : List V} : V.cellsB (.agg l) = some l := Eq.trans rfl rfl
theorem cellsB_sl {t : Tok} {n : Nat} {l : List V} : V.cellsB (.sl t n l) = some [.sl t n l] := Eq.trans rfl rfl
theorem cellsB_int {k : IntKind} {n : Int} : V.cellsB (.lit (.int k n)) = some [.lit (.int k n)] := Eq.trans rfl rfl
theorem cellsB_bool {b : Bool} : V.cellsB (.lit (.bool b)) = some [.lit (.bool b)] := Eq.trans rfl rfl
theorem cellsB_buf {t off n sz : Nat} {cap : Option Nat} : V.cellsB (.buf t off n cap sz) = some [.buf t off n cap sz] := Eq.trans rfl rfl

def takeF : Nat → List V → Option (List V)
  | 0, _ => some []
  | n + 1, [] => none
  | n + 1, x :: l => if x.flat = true then (takeF n l).map (x :: ·) else none
theorem takeF_zero {l : List V} : takeF 0 l = some [] := by cases l <;> rfl
theorem takeF_succ {n : Nat} {x : V} {l : List V} : takeF (n + 1) (x :: l) = if x.flat = true then (takeF n l).map (x :: ·) else none := Eq.trans rfl rfl
theorem takeF_eq : ∀ (n : Nat) (l : List V), takeF n l = if n ≤ l.length ∧ (l.take n).all V.flat = true then some (l.take n) else none
  | 0, l => by simp [takeF_zero]
  | n + 1, [] => by simp [takeF]
  | n + 1, x :: l => by
    rw [takeF_succ, takeF_eq n l]
    by_cases h : x.flat = true
    · by_cases g : n ≤ l.length ∧ (l.take n).all V.flat = true
      · rw [if_pos h, if_pos g, if_pos ⟨by simp; exact g.1, by simp [h]; simpa using g.2⟩]; rfl
      · rw [if_pos h, if_neg g, if_neg]; · rfl
        intro q
        exact g ⟨by simpa using q.1, by have := q.2; simp [h] at this; simpa using this⟩
    · rw [if_neg h, if_neg]
      intro q
      have := q.2
      simp at this
      exact h this.1
theorem vp_succ {x : V} {l : List V} {i : Nat} {ag : Option Nat} : vpart (x :: l) (i + 1) ag = vpart l i ag := by
  cases ag with
  | none => simp [vpart]
  | some n =>
    simp only [vpart, List.length_cons, List.drop_succ_cons]
    by_cases h : i + n ≤ l.length ∧ ((l.drop i).take n).all V.flat = true
    · rw [if_pos h, if_pos ⟨by omega, h.2⟩]
    · rw [if_neg h, if_neg fun q => h ⟨by omega, q.2⟩]
theorem vp_none {x : V} {l : List V} : vpart (x :: l) 0 none = some x := Eq.trans rfl rfl
theorem vp_some {l : List V} {n : Nat} : vpart l 0 (some n) = (takeF n l).map .agg := by
  rw [takeF_eq]
  simp only [vpart, Nat.zero_add, List.drop_zero]
  split <;> rfl
theorem dl_some {l : List V} {b : Bool} {ag : Option Nat} {i : Nat} : dload (some ⟨l, b⟩) ag i = vpart l i ag := Eq.trans rfl rfl
theorem flat_sl {t : Tok} {n : Nat} {l : List V} : V.flat (.sl t n l) = true := Eq.trans rfl rfl
theorem flat_lit {v : Value} : V.flat (.lit v) = true := Eq.trans rfl rfl
theorem flat_agg {l : List V} : V.flat (.agg l) = true := Eq.trans rfl rfl
theorem ld_eptr {σ : Nat → Option Blk} {ag : Option Nat} {l : List V} {i : Nat} : vload σ ag (.eptr l i) = vpart l i ag := Eq.trans rfl rfl
theorem fd_agg {off : Nat} {ag : Option Nat} {l : List V} : vfld off ag (.agg l) = vpart l off ag := Eq.trans rfl rfl
theorem fa_ptr {off t o : Nat} : vfa off (.ptr t o) = some (.ptr t (o + off)) := Eq.trans rfl rfl
theorem fa_eptr {off i : Nat} {l : List V} : vfa off (.eptr l i) = some (.eptr l (i + off)) := Eq.trans rfl rfl
theorem ds_agg {l cs : List V} {σ : Nat → Option Blk} {t n off : Nat} : dstore (some ⟨l, true⟩) σ t n off (.agg cs) = if cs.length = n ∧ off + n ≤ l.length then some (supd σ t (some ⟨putCells l off cs, true⟩)) else none := by
  simp [dstore, V.cellsB, V.cells]
theorem ds_one {l : List V} {σ : Nat → Option Blk} {t off : Nat} {v : V} (h : v.cellsB = some [v]) : dstore (some ⟨l, true⟩) σ t 1 off v = if off < l.length then some (supd σ t (some ⟨l.set off v, true⟩)) else none := by
  simp only [dstore, h]
  by_cases g : off < l.length
  · rw [if_pos g, if_pos ⟨trivial, rfl, by omega⟩]; rfl
  · rw [if_neg g, if_neg (by omega)]
theorem ds_sl {l : List V} {σ : Nat → Option Blk} {t off n : Nat} {tk : Tok} {m : List V} : dstore (some ⟨l, true⟩) σ t 1 off (.sl tk n m) = if off < l.length then some (supd σ t (some ⟨l.set off (.sl tk n m), true⟩)) else none := ds_one rfl
theorem ds_int {l : List V} {σ : Nat → Option Blk} {t off : Nat} {k : IntKind} {n : Int} : dstore (some ⟨l, true⟩) σ t 1 off (.lit (.int k n)) = if off < l.length then some (supd σ t (some ⟨l.set off (.lit (.int k n)), true⟩)) else none := ds_one rfl
theorem ds_bool {l : List V} {σ : Nat → Option Blk} {t off : Nat} {b : Bool} : dstore (some ⟨l, true⟩) σ t 1 off (.lit (.bool b)) = if off < l.length then some (supd σ t (some ⟨l.set off (.lit (.bool b)), true⟩)) else none := ds_one rfl
theorem ds_buf {l : List V} {σ : Nat → Option Blk} {t off t' o' n' sz : Nat} {cap : Option Nat} : dstore (some ⟨l, true⟩) σ t 1 off (.buf t' o' n' cap sz) = if off < l.length then some (supd σ t (some ⟨l.set off (.buf t' o' n' cap sz), true⟩)) else none := ds_one rfl
theorem pc_nil {l : List V} {i : Nat} : putCells l i [] = l := Eq.trans rfl rfl
theorem pc_cons {l xs : List V} {x : V} {i : Nat} : putCells l i (x :: xs) = putCells (l.set i x) (i + 1) xs := Eq.trans rfl rfl
theorem vl_nil : vlits [] = [] := Eq.trans rfl rfl
theorem vl_cons {v : Value} {z : List Value} : vlits (v :: z) = ofCell v :: vlits z := Eq.trans rfl rfl
theorem oc_bool {b : Bool} : ofCell (.bool b) = .lit (.bool b) := Eq.trans rfl rfl
theorem oc_int {k : IntKind} {n : Int} : ofCell (.int k n) = .lit (.int k n) := Eq.trans rfl rfl
theorem oc_nil : ofCell (.slice none 0 0) = .sl .nil 1 [] := Eq.trans rfl rfl
theorem po_nil {e : X → V} : partsOf e [] = [] := Eq.trans rfl rfl
theorem po_cons {e : X → V} {a n : Nat} {x : X} {ps : List (Nat × Nat × X)} : partsOf e ((a, n, x) :: ps) = (a, n, e x) :: partsOf e ps := Eq.trans rfl rfl
theorem vb_eq {z : List Value} {ps : List (Nat × Nat × V)} : vbuild z ps = (vfill (vlits z) ps).map .agg := Eq.trans rfl rfl
theorem vf_nil {cs : List V} : vfill cs [] = some cs := Eq.trans rfl rfl
theorem vf_agg {cs l : List V} {off n : Nat} {r : List (Nat × Nat × V)} : vfill cs ((off, n, .agg l) :: r) = if l.length = n ∧ off + n ≤ cs.length then vfill (putCells cs off l) r else none := Eq.trans rfl rfl
theorem vf_one {cs : List V} {v : V} (h : v.cells = some [v]) {off : Nat} {r : List (Nat × Nat × V)} : vfill cs ((off, 1, v) :: r) = if off < cs.length then vfill (cs.set off v) r else none := by
  simp only [vfill, h]
  by_cases g : off < cs.length
  · rw [if_pos g, if_pos ⟨rfl, by omega⟩]; rfl
  · rw [if_neg g, if_neg (by omega)]
theorem vf_sl {cs : List V} {t : Tok} {n : Nat} {l : List V} {off : Nat} {r : List (Nat × Nat × V)} : vfill cs ((off, 1, .sl t n l) :: r) = if off < cs.length then vfill (cs.set off (.sl t n l)) r else none := vf_one rfl
theorem vf_int {cs : List V} {k : IntKind} {n : Int} {off : Nat} {r : List (Nat × Nat × V)} : vfill cs ((off, 1, .lit (.int k n)) :: r) = if off < cs.length then vfill (cs.set off (.lit (.int k n))) r else none := vf_one rfl
theorem vf_bool {cs : List V} {b : Bool} {off : Nat} {r : List (Nat × Nat × V)} : vfill cs ((off, 1, .lit (.bool b)) :: r) = if off < cs.length then vfill (cs.set off (.lit (.bool b))) r else none := vf_one rfl
def oneQ (v : V) : Option V := if v.one = true then some v else none
theorem oneQ_agg {l : List V} : oneQ (.agg l) = some (.agg l) := Eq.trans rfl rfl
theorem oneQ_sl {t : Tok} {n : Nat} {l : List V} : oneQ (.sl t n l) = some (.sl t n l) := Eq.trans rfl rfl
theorem oneQ_lit {v : Value} : oneQ (.lit v) = some (.lit v) := Eq.trans rfl rfl
theorem oneQ_tup {l : List V} : oneQ (.tup l) = some (.tup l) := Eq.trans rfl rfl
def getS (a : Option V) (K : V → Prop) : Prop := ∃ r, a = some r ∧ K r
theorem getS_some {v : V} {K : V → Prop} : getS (some v) K = K v := by simp [getS]
theorem getS_congr {a b : Option V} {K : V → Prop} (h : a = b) : getS a K = getS b K := by rw [h]
attribute [congr] getS_congr
theorem vr_tmp {ρ : Nat → V} {σ : Nat → Option Blk} {c t : Nat} : vres ⟨ρ, σ, c⟩ (.tmp t) = oneQ (ρ t) := Eq.trans rfl rfl
theorem vr_cell {ρ : Nat → V} {σ : Nat → Option Blk} {c t : Nat} {ag : Option Nat} : vres ⟨ρ, σ, c⟩ (.cell t ag) = (vload σ ag (ρ t)).bind oneQ := by
  unfold vres
  simp only
  cases vload σ ag (ρ t) <;> rfl
theorem vr_nil {S : VS} : vresL S [] = some [] := Eq.trans rfl rfl
theorem vr_cons {S : VS} {r : VRes} {l : List VRes} : vresL S (r :: l) = (vres S r).bind fun v => (vresL S l).map (v :: ·) := by
  simp only [vresL]
  cases vres S r <;> cases vresL S l <;> rfl
def resV : Option (List V) → Option V | some [v] => some v | some vs => some (.tup vs) | none => none
theorem resV_1 {v : V} : resV (some [v]) = some v := Eq.trans rfl rfl
theorem resV_2 {a b : V} {l : List V} : resV (some (a :: b :: l)) = some (.tup (a :: b :: l)) := Eq.trans rfl rfl
theorem rt_any {rs : List VRes} {Q : V → Nat → Prop} {ρ : Nat → V} {σ : Nat → Option Blk} {c : Nat} : retQ rs Q .ret ⟨ρ, σ, c⟩ = getS (resV (vresL ⟨ρ, σ, c⟩ rs)) fun r => Q r c := by
  rw [retQ_ret]
  unfold getS resV vresult
  rfl
def bslS (P : Program) (dr : Bool) (c0 : Nat) (a : Option (List V)) (sz i : Nat) (ρ : Nat → V) (σ : Nat → Option Blk) (c : Nat) (r : List VO) (K : VS → Prop) : Prop := ∃ l, a = some l ∧ wps P dr c0 r ⟨upd ρ i (.sl (.id c) sz l), σ, c + 1⟩ K
def bslS0 (P : Program) (dr : Bool) (c0 : Nat) (a : Option (List V)) (sz i : Nat) (ρ : Nat → V) (σ : Nat → Option Blk) (c : Nat) (r : List VO) (K : VS → Prop) : Prop := ∃ l, a = some l ∧ wps P dr c0 r ⟨upd ρ i (.sl .unk sz l), σ, c⟩ K
section
variable {P : Program} {dr : Bool} {c0 : Nat} {S : VS} {r : List VO} {K : VS → Prop} {d : Option Nat} {i c : Nat} {ρ : Nat → V} {σ : Nat → Option Blk}
theorem q_bsl {sz len : Nat} {z : List Value} {ps : List (Nat × Nat × X)} : wps P dr c0 (⟨some i, .bsl true sz len z ps, none⟩ :: r) ⟨ρ, σ, c⟩ K = bslS P dr c0 (vfill (rept z len) (partsOf (X.ev ρ) ps)) sz i ρ σ c r K := by
  refine propext ⟨fun h => ?_, fun ⟨l, h1, h2⟩ => s_eff rfl (by intros; exact fun h => by cases h) (by intros; exact fun h => by cases h) ⟨_, _, _, none, .bsl h1, h2⟩⟩
  obtain ⟨v, σ', c', kt, h, hk⟩ := opS_eff h
  cases h with
  | pure h => simp [vpure] at h
  | bsl h => exact ⟨_, h, hk⟩
theorem q_bsl0 {sz len : Nat} {z : List Value} {ps : List (Nat × Nat × X)} : wps P dr c0 (⟨some i, .bsl false sz len z ps, none⟩ :: r) ⟨ρ, σ, c⟩ K = bslS0 P dr c0 (vfill (rept z len) (partsOf (X.ev ρ) ps)) sz i ρ σ c r K := by
  refine propext ⟨fun h => ?_, fun ⟨l, h1, h2⟩ => s_eff rfl (by intros; exact fun h => by cases h) (by intros; exact fun h => by cases h) ⟨_, _, _, none, .bsl0 h1, h2⟩⟩
  obtain ⟨v, σ', c', kt, h, hk⟩ := opS_eff h
  cases h with
  | pure h => simp [vpure] at h
  | bsl0 h => exact ⟨_, h, hk⟩
theorem bslS_some {l : List V} {sz : Nat} : bslS P dr c0 (some l) sz i ρ σ c r K = wps P dr c0 r ⟨upd ρ i (.sl (.id c) sz l), σ, c + 1⟩ K := by simp [bslS]
theorem bslS0_some {l : List V} {sz : Nat} : bslS0 P dr c0 (some l) sz i ρ σ c r K = wps P dr c0 r ⟨upd ρ i (.sl .unk sz l), σ, c⟩ K := by simp [bslS0]
theorem bslS_congr {a b : Option (List V)} {sz : Nat} (h : a = b) : bslS P dr c0 a sz i ρ σ c r K = bslS P dr c0 b sz i ρ σ c r K := by rw [h]
theorem bslS0_congr {a b : Option (List V)} {sz : Nat} (h : a = b) : bslS0 P dr c0 a sz i ρ σ c r K = bslS0 P dr c0 b sz i ρ σ c r K := by rw [h]
end
attribute [congr] bslS_congr bslS0_congr
theorem rp_zero {z : List Value} : rept z 0 = [] := Eq.trans rfl rfl
theorem rp_succ {z : List Value} {n : Nat} : rept z (n + 1) = vlits z ++ rept z n := Eq.trans rfl rfl
theorem ix_sl {sz : Nat} {t : Tok} {l : List V} {n : Int} : vixa sz (.sl t sz l) (iv n) = if 0 ≤ n ∧ n.toNat < l.length / sz then some (.eptr l (n.toNat * sz)) else none := by simp [vixa]
theorem ln_sl {sz : Nat} {t : Tok} {l : List V} : vlen (.sl t sz l) = some (iv ((l.length / sz : Nat) : Int)) := Eq.trans rfl rfl
def nextQ (P : Program) (c0 : Nat) (b : VC) (Q : VEx → VS → Prop) : VEx → VS → Prop
  | .normal, S => VWP P c0 (.loop b) Q S
  | e, S => Q e S
theorem nextQ_normal {P : Program} {c0 : Nat} {b : VC} {Q : VEx → VS → Prop} {S : VS} : nextQ P c0 b Q .normal S = VWP P c0 (.loop b) Q S := Eq.trans rfl rfl
theorem nextQ_exit {P : Program} {c0 : Nat} {b : VC} {Q : VEx → VS → Prop} {S : VS} {j : Nat} : nextQ P c0 b Q (.exit j) S = Q (.exit j) S := Eq.trans rfl rfl
theorem nextQ_ret {P : Program} {c0 : Nat} {b : VC} {Q : VEx → VS → Prop} {S : VS} : nextQ P c0 b Q .ret S = Q .ret S := Eq.trans rfl rfl
theorem v_next {P : Program} {c0 : Nat} {b : VC} {Q : VEx → VS → Prop} {S : VS} (h : VWP P c0 b (nextQ P c0 b Q) S) : VWP P c0 (.loop b) Q S := by
  obtain ⟨e, S1, h1, h2⟩ := h
  cases e with
  | normal =>
    obtain ⟨e, S', h3, h4⟩ := h2
    exact ⟨e, S', .loop h1 h3, h4⟩
  | exit j => exact ⟨_, S1, .loopOut h1 (fun h => by cases h), h2⟩
  | ret => exact ⟨_, S1, .loopOut h1 (fun h => by cases h), h2⟩
attribute [irreducible] nextQ
theorem b_neS {a : Bool} : sbin .neq true (bv a) (bv a) = some (bv false) := by cases a <;> rfl
theorem b_ne1 : sbin .neq true (bv false) (bv true) = some (bv true) := Eq.trans rfl rfl
theorem b_ne2 : sbin .neq true (bv true) (bv false) = some (bv true) := Eq.trans rfl rfl
theorem b_eqS {a : Bool} : sbin .eql true (bv a) (bv a) = some (bv true) := by cases a <;> rfl
theorem b_eq1 : sbin .eql true (bv false) (bv true) = some (bv false) := Eq.trans rfl rfl
theorem b_eq2 : sbin .eql true (bv true) (bv false) = some (bv false) := Eq.trans rfl rfl
theorem k_ne {α : Sort _} {a b : Nat} {x y : α} (h : a ≠ b) : (if a = b then x else y) = y := if_neg h
theorem vst : type_of% (And.intro @b_neS (And.intro @b_ne1 (And.intro @b_ne2 (And.intro @b_eqS (And.intro @b_eq1 (And.intro @b_eq2 (And.intro @q_bsl (And.intro @q_bsl0 (And.intro @bslS_some (And.intro @bslS0_some (And.intro @rp_zero (And.intro @rp_succ (And.intro @ix_sl (And.intro @ln_sl (And.intro @nextQ_normal (And.intro @nextQ_exit (And.intro @nextQ_ret (And.intro @q_alloc (And.intro @q_box (And.intro @q_boxA (And.intro @q_storeA (And.intro @offS_eq (And.intro @boxS_some (And.intro @boxAS_some (And.intro @offL_nil (And.intro @offL_cons (And.intro @offp_ptr (And.intro @cells_agg (And.intro @cells_sl (And.intro @cells_int (And.intro @cells_bool (And.intro @cellsB_agg (And.intro @cellsB_sl (And.intro @cellsB_int (And.intro @cellsB_bool (And.intro @cellsB_buf (And.intro @takeF_zero (And.intro @takeF_succ (And.intro @vp_succ (And.intro @vp_none (And.intro @vp_some (And.intro @dl_some (And.intro @flat_sl (And.intro @flat_lit (And.intro @flat_agg (And.intro @ld_eptr (And.intro @fd_agg (And.intro @fa_ptr (And.intro @fa_eptr (And.intro @ds_agg (And.intro @ds_sl (And.intro @ds_int (And.intro @ds_bool (And.intro @ds_buf (And.intro @pc_nil (And.intro @pc_cons (And.intro @vl_nil (And.intro @vl_cons (And.intro @oc_bool (And.intro @oc_int (And.intro @oc_nil (And.intro @po_nil (And.intro @po_cons (And.intro @vb_eq (And.intro @vf_nil (And.intro @vf_agg (And.intro @vf_sl (And.intro @vf_int (And.intro @vf_bool (And.intro @oneQ_agg (And.intro @oneQ_sl (And.intro @oneQ_lit (And.intro @oneQ_tup (And.intro @getS_some (And.intro @vr_tmp (And.intro @vr_cell (And.intro @vr_nil (And.intro @vr_cons (And.intro @resV_1 (And.intro @resV_2 (And.intro @rt_any @s_build))))))))))))))))))))))))))))))))))))))))))))))))))))))))))))))))))))))))))))))))) :=
  (And.intro @b_neS (And.intro @b_ne1 (And.intro @b_ne2 (And.intro @b_eqS (And.intro @b_eq1 (And.intro @b_eq2 (And.intro @q_bsl (And.intro @q_bsl0 (And.intro @bslS_some (And.intro @bslS0_some (And.intro @rp_zero (And.intro @rp_succ (And.intro @ix_sl (And.intro @ln_sl (And.intro @nextQ_normal (And.intro @nextQ_exit (And.intro @nextQ_ret (And.intro @q_alloc (And.intro @q_box (And.intro @q_boxA (And.intro @q_storeA (And.intro @offS_eq (And.intro @boxS_some (And.intro @boxAS_some (And.intro @offL_nil (And.intro @offL_cons (And.intro @offp_ptr (And.intro @cells_agg (And.intro @cells_sl (And.intro @cells_int (And.intro @cells_bool (And.intro @cellsB_agg (And.intro @cellsB_sl (And.intro @cellsB_int (And.intro @cellsB_bool (And.intro @cellsB_buf (And.intro @takeF_zero (And.intro @takeF_succ (And.intro @vp_succ (And.intro @vp_none (And.intro @vp_some (And.intro @dl_some (And.intro @flat_sl (And.intro @flat_lit (And.intro @flat_agg (And.intro @ld_eptr (And.intro @fd_agg (And.intro @fa_ptr (And.intro @fa_eptr (And.intro @ds_agg (And.intro @ds_sl (And.intro @ds_int (And.intro @ds_bool (And.intro @ds_buf (And.intro @pc_nil (And.intro @pc_cons (And.intro @vl_nil (And.intro @vl_cons (And.intro @oc_bool (And.intro @oc_int (And.intro @oc_nil (And.intro @po_nil (And.intro @po_cons (And.intro @vb_eq (And.intro @vf_nil (And.intro @vf_agg (And.intro @vf_sl (And.intro @vf_int (And.intro @vf_bool (And.intro @oneQ_agg (And.intro @oneQ_sl (And.intro @oneQ_lit (And.intro @oneQ_tup (And.intro @getS_some (And.intro @vr_tmp (And.intro @vr_cell (And.intro @vr_nil (And.intro @vr_cons (And.intro @resV_1 (And.intro @resV_2 (And.intro @rt_any @s_build)))))))))))))))))))))))))))))))))))))))))))))))))))))))))))))))))))))))))))))))))
end Go.VM
set_option linter.unusedSimpArgs false
set_option linter.unusedVariables false
set_option maxRecDepth 100000
set_option maxHeartbeats 8000000
namespace Go.Proofs.YtacodmnlnlbahaaGreatDoor
open Go.VM

theorem u_neg {x : Nat} : vun .neg (nv x) = some (nv ((18446744073709551616 - x % 18446744073709551616) % 18446744073709551616)) := by
  simp only [vun]
  have : IntKind.u64.wrap (0 - (x : Int)) = (((18446744073709551616 - x % 18446744073709551616) % 18446744073709551616 : Nat) : Int) := by
    simp only [IntKind.wrap, IntKind.signed, IntKind.bits]
    simp
    omega
  rw [this]
theorem ax_g {n sz g off x : Nat} : vaxa n sz (.gptr g off) (nv x) = if x < n then some (.gptr g (off + x * sz)) else none := by
  simp [vaxa]
theorem ld_tab {σ : Nat → Option Blk} {i k : Nat} (h : dbTab[i]? = some k) : vload σ none (.gptr 0 i) = some (.lit (.int .u8 (k : Int))) := by
  have e : ∀ (l : List Nat) (j : Nat) (k : Nat), l[j]? = some k → ((l.map fun z : Nat => Value.int .u8 (z : Int)).map ofCell)[j]? = some (.lit (.int .u8 (k : Int))) := by
    intro l j k h
    rw [List.getElem?_map, List.getElem?_map, h]
    rfl
  have e2 : GT 0 = some (dbTab.map fun z : Nat => Value.int .u8 (z : Int)) := rfl
  simp only [vload, e2, vpart]
  exact e _ _ _ h

theorem tz64_spec (x c : Nat) (h0 : 0 < x) (hx : x < 18446744073709551616) : VSpec Tryz.prog F.bits_TrailingZeros64 c [nv x] (fun r _ => r = iv (tz x)) := by
  refine spec_mk hm E.bits_TrailingZeros64 B.bits_TrailingZeros64 K.bits_TrailingZeros64 Q.bits_TrailingZeros64 (by rw [N.bits_TrailingZeros64]; simp) ?_
  unfold C.bits_TrailingZeros64 R.bits_TrailingZeros64
  obtain ⟨h1, h2⟩ := db_tz h0 hx
  have h3 : (18446744073709551616 - x % 18446744073709551616) % 18446744073709551616 = 18446744073709551616 - x := by omega
  have h4 : x &&& (18446744073709551616 - x) = 2 ^ tz x := low_bit (k := 64) h0 hx
  have h5 : x % 18446744073709551616 &&& (18446744073709551616 - x) % 18446744073709551616 = x &&& (18446744073709551616 - x) := by rw [Nat.mod_eq_of_lt hx, Nat.mod_eq_of_lt (by omega)]
  have hne : ¬ x = 0 := by omega
  have hp : 2 ^ min 58 64 = 288230376151711744 := by decide
  (repeat (first | refine v_reg ?_ | refine v_last ?_ | refine vwp_seq ?_ | refine vwp_block ?_ | refine vwp_skip ?_ | refine vwp_exit ?_ | refine vwp_ret ?_ | refine v_cond ?_ | simp only [vm, ite_true, ite_false, eq_self, reduceIte, Nat.reduceEqDiff, Option.map, hne] | refine And.intro (by omega) ?_))
  simp only [u_neg, u_and, h3, h5, vm, ite_true, ite_false, eq_self, reduceIte, Nat.reduceEqDiff, Option.map, hp, ax_g, h1]
  simp only [Nat.mul_one, ld_tab h2, vm, ite_true, ite_false, eq_self, reduceIte, Nat.reduceEqDiff, Option.map]
  have ht := tz_lt (k := 64) (by omega) hx
  rw [c_8i (by omega)]
  (repeat (first | refine v_reg ?_ | refine v_last ?_ | refine vwp_seq ?_ | refine vwp_block ?_ | refine vwp_skip ?_ | refine vwp_exit ?_ | refine vwp_ret ?_ | refine v_cond ?_ | simp only [vm, ite_true, ite_false, eq_self, reduceIte, Nat.reduceEqDiff, Option.map] | refine And.intro (by omega) ?_))
  exact Nat.le_refl _
end Go.Proofs.YtacodmnlnlbahaaGreatDoor
set_option linter.unusedSimpArgs false
set_option linter.unusedVariables false
set_option maxRecDepth 100000
set_option maxHeartbeats 8000000
namespace Go.Proofs.YtacodmnlnlbahaaGreatDoor
open Go.VM

theorem tz_limb {x R : Nat} (i : Nat) (h0 : 0 < x) (hx : x < 18446744073709551616) : tz (2 ^ (64 * i) * (x + 18446744073709551616 * R)) = 64 * i + tz x := by
  rw [tz_pow (by omega)]
  have := tz_low (k := 64) (r := R) (by omega : x ≠ 0) hx
  rw [show (2 : Nat) ^ 64 = 18446744073709551616 by decide] at this
  rw [this]

theorem tail_spec (t : Tok) (l : List Nat) (c : Nat) (hl : Lim 18446744073709551616 l) (hn : l.length ≤ 4398046511104) : VSpec Tryz.prog F.nat_Tail c [nats t l] (fun r _ => r = iv (tz (val 18446744073709551616 l) : Nat)) := by
  refine spec_mk hm E.nat_Tail B.nat_Tail K.nat_Tail Q.nat_Tail (by rw [N.nat_Tail]; simp) ?_
  unfold C.nat_Tail R.nat_Tail
  (repeat (first | refine v_reg ?_ | refine v_last ?_ | refine vwp_seq ?_ | refine vwp_block ?_ | refine vwp_skip ?_ | refine vwp_exit ?_ | refine vwp_ret ?_ | refine v_cond ?_ | simp only [vm, ite_true, ite_false, eq_self, reduceIte, Nat.reduceEqDiff, Option.map] | refine And.intro (by omega) ?_))
  refine v_loopR (fun S => S.σ = noBlk ∧ c ≤ S.c ∧ val 18446744073709551616 l = 0) ?_ ?_
  · refine vwp_loop (fun k S => ∃ i, k = l.length - i ∧ i ≤ l.length ∧ S.ρ 5 = nats t l ∧ S.ρ 6 = iv l.length ∧ S.ρ 7 = iv i ∧ val 18446744073709551616 l = 2 ^ (64 * i) * val 18446744073709551616 (l.drop i) ∧ S.σ = noBlk ∧ c ≤ S.c) l.length ?_ ?_
    · refine ⟨0, by omega, by omega, ?_⟩
      simp only [vm, ite_true, ite_false, eq_self, reduceIte, Nat.reduceEqDiff, Option.map]
      (repeat' apply And.intro) <;> first | rfl | omega | assumption | simp
    rintro k ⟨ρ, σ, c3⟩ ⟨i, hk, hi, h5, h6, h7, hv, hσ, hc3⟩
    dsimp only at h5 h6 h7 hσ hc3
    subst hσ
    by_cases g : (i : Int) < l.length
    · have hi' : i < l.length := by omega
      have hd := val_drop (b := 18446744073709551616) hi'
      have hx := hl.getD (i := i) (by decide)
      by_cases g2 : l.getD i 0 = 0
      · (repeat (first | refine v_reg ?_ | refine v_last ?_ | refine vwp_seq ?_ | refine vwp_block ?_ | refine vwp_skip ?_ | refine vwp_exit ?_ | refine vwp_ret ?_ | refine v_cond ?_ | simp only [vm, ite_true, ite_false, eq_self, reduceIte, Nat.reduceEqDiff, Option.map, h5, h6, h7, g, g2] | refine And.intro (by omega) ?_))
        refine ⟨l.length - (i + 1), by omega, i + 1, ?_⟩
        have hv2 : val 18446744073709551616 l = 2 ^ (64 * (i + 1)) * val 18446744073709551616 (l.drop (i + 1)) := by
          rw [hv, hd, g2, Nat.zero_add, Nat.mul_add, Nat.pow_add, Nat.mul_assoc]
        (repeat' apply And.intro) <;> first | rfl | omega | assumption
      · (repeat (first | refine v_reg ?_ | refine v_last ?_ | refine vwp_seq ?_ | refine vwp_block ?_ | refine vwp_skip ?_ | refine vwp_exit ?_ | refine vwp_ret ?_ | refine v_cond ?_ | simp only [vm, ite_true, ite_false, eq_self, reduceIte, Nat.reduceEqDiff, Option.map, h5, h6, h7, g, g2] | refine And.intro (by omega) ?_))
        refine s_call (tz64_spec _ c3 (by omega) hx) (by simp only [vm, ite_true, ite_false, eq_self, reduceIte, Nat.reduceEqDiff, Option.map, List.map]) ?_
        rintro v c4 hc4 rfl
        have ht := tz_lt (k := 64) g2 hx
        (repeat (first | refine v_reg ?_ | refine v_last ?_ | refine vwp_seq ?_ | refine vwp_block ?_ | refine vwp_skip ?_ | refine vwp_exit ?_ | refine vwp_ret ?_ | refine v_cond ?_ | simp only [vm, ite_true, ite_false, eq_self, reduceIte, Nat.reduceEqDiff, Option.map] | refine And.intro (by omega) ?_))
        have hv2 : tz (val 18446744073709551616 l) = 64 * i + tz (l.getD i 0) := by rw [hv, hd]; exact tz_limb i (by omega) hx
        rw [hv2]
        (repeat' apply And.intro) <;> first | rfl | omega | assumption | (push_cast; rfl)
    · have : i = l.length := by omega
      subst this
      rw [List.drop_length] at hv
      (repeat (first | refine v_reg ?_ | refine v_last ?_ | refine vwp_seq ?_ | refine vwp_block ?_ | refine vwp_skip ?_ | refine vwp_exit ?_ | refine vwp_ret ?_ | refine v_cond ?_ | simp only [vm, ite_true, ite_false, eq_self, reduceIte, Nat.reduceEqDiff, Option.map, h5, h6, h7, g] | refine And.intro (by omega) ?_))
      (repeat' apply And.intro) <;> first | rfl | omega | assumption | (rw [hv]; rfl)
  rintro ⟨ρ3, σ, c5⟩ ⟨hσ, hc5, hv⟩
  dsimp only at hσ hc5
  subst hσ
  (repeat (first | refine v_reg ?_ | refine v_last ?_ | refine vwp_seq ?_ | refine vwp_block ?_ | refine vwp_skip ?_ | refine vwp_exit ?_ | refine vwp_ret ?_ | refine v_cond ?_ | simp only [vm, ite_true, ite_false, eq_self, reduceIte, Nat.reduceEqDiff, Option.map] | refine And.intro (by omega) ?_))
  rw [hv, tz_zero]
  (repeat' apply And.intro) <;> first | rfl | omega | assumption
end Go.Proofs.YtacodmnlnlbahaaGreatDoor
set_option linter.unusedSimpArgs false
set_option linter.unusedVariables false
set_option maxRecDepth 100000
set_option maxHeartbeats 8000000
namespace Go.Proofs.YtacodmnlnlbahaaGreatDoor
open Go.VM

theorem val_right (x : List Nat) (n : Nat) (hx : Lim 18446744073709551616 x) : val 18446744073709551616 x / 2 ^ n = val 18446744073709551616 (x.drop (n / 64)) / 2 ^ (n % 64) := by
  have e : 2 ^ n = 18446744073709551616 ^ (n / 64) * 2 ^ (n % 64) := by rw [pow64, ← Nat.pow_add, Nat.div_add_mod]
  rw [e, ← Nat.div_div_eq_div_mul]
  congr 1
  rcases Nat.lt_or_ge x.length (n / 64) with g | g
  · rw [List.drop_eq_nil_of_le (Nat.le_of_lt g)]
    exact Nat.div_eq_of_lt (Nat.lt_of_lt_of_le (val_lt hx) (Nat.pow_le_pow_right (by decide) (Nat.le_of_lt g)))
  · have h := val_take_drop 18446744073709551616 (n / 64) x g
    have h2 : val 18446744073709551616 (x.take (n / 64)) < 18446744073709551616 ^ (n / 64) := by
      have := val_lt (hx.take (k := n / 64))
      rwa [List.length_take, Nat.min_eq_left g] at this
    rw [h, Nat.add_mul_div_left _ _ (Nat.pow_pos (by decide)), Nat.div_eq_of_lt h2, Nat.zero_add]

theorem right_spec (t : Tok) (a : List Nat) (n c : Nat) (ha : Lim 18446744073709551616 a) (hna : a.length ≤ 1099511627776) (hn : n ≤ 1099511627776) : VSpec Tryz.prog F.nat_Right c [nats t a, iv (n : Int)] (fun r c' => Told c c' (val 18446744073709551616 a / 2 ^ n) r) := by
  refine spec_mk hm E.nat_Right B.nat_Right K.nat_Right Q.nat_Right (by rw [N.nat_Right]; simp) ?_
  unfold C.nat_Right R.nat_Right
  have hla := digs_len_le two64 ha
  have g1 : ¬ (n : Int) < 0 := by omega
  have g2 : ¬ (1099511627776 : Int) < n := by omega
  have d1 : (n : Int) / 64 = ((n / 64 : Nat) : Int) := by omega
  have d2 : (n : Int) % 64 = ((n % 64 : Nat) : Int) := by omega
  have d3 : ((n % 64 : Nat) : Int).toNat = n % 64 := by omega
  (repeat (first | refine v_reg ?_ | refine v_last ?_ | refine vwp_seq ?_ | refine vwp_block ?_ | refine vwp_skip ?_ | refine vwp_exit ?_ | refine vwp_ret ?_ | refine v_cond ?_ | simp only [vm, ite_true, ite_false, eq_self, reduceIte, Nat.reduceEqDiff, Option.map, g1, g2] | refine And.intro (by omega) ?_))
  refine s_call (trim_spec t a c ha (by omega)) (by simp only [vm, ite_true, ite_false, eq_self, reduceIte, Nat.reduceEqDiff, Option.map, List.map]) ?_
  rintro v c2 hc2 rfl
  have hx := lim_digs two64 (val 18446744073709551616 a)
  have va := val_digs two64 (val 18446744073709551616 a)
  generalize digs 18446744073709551616 (val 18446744073709551616 a) = x at *
  have hvr := val_right x n hx
  rw [va] at hvr
  obtain ⟨q, hq⟩ : ∃ q, q = n / 64 := ⟨_, rfl⟩
  obtain ⟨s, hs⟩ : ∃ s, s = n % 64 := ⟨_, rfl⟩
  rw [← hq, ← hs] at hvr
  rw [← hq] at d1
  rw [← hs] at d2 d3
  by_cases g3 : (x.length : Int) ≤ (q : Int)
  · have hx0 : x.drop q = [] := List.drop_eq_nil_of_le (by omega)
    (repeat (first | refine v_reg ?_ | refine v_last ?_ | refine vwp_seq ?_ | refine vwp_block ?_ | refine vwp_skip ?_ | refine vwp_exit ?_ | refine vwp_ret ?_ | refine v_cond ?_ | simp only [vm, ite_true, ite_false, eq_self, reduceIte, Nat.reduceEqDiff, Option.map, g1, g2, d1, d2, d3, g3] | refine And.intro (by omega) ?_))
    rw [hvr, hx0]
    refine .inl ⟨?_, .nil, ?_, .inl rfl⟩
    · rw [val_nil, Nat.zero_div]; decide
    · rw [val_nil, Nat.zero_div]; rfl
  have hlX : (x.drop q).length = x.length - q := List.length_drop
  have hg : ∀ j, x.getD (q + j) 0 = (x.drop q).getD j 0 := fun j => by
    rw [List.getD_eq_getElem?_getD, List.getD_eq_getElem?_getD, List.getElem?_drop]
  have hX := hx.drop (k := q)
  obtain ⟨m, hm⟩ : ∃ m, m = x.length - q := ⟨_, rfl⟩
  have hm2 : (x.length : Int) - (q : Int) = (m : Int) := by omega
  (repeat (first | refine v_reg ?_ | refine v_last ?_ | refine vwp_seq ?_ | refine vwp_block ?_ | refine vwp_skip ?_ | refine vwp_exit ?_ | refine vwp_ret ?_ | refine v_cond ?_ | simp only [vm, ite_true, ite_false, eq_self, reduceIte, Nat.reduceEqDiff, Option.map, g1, g2, d1, d2, d3, g3, hm2] | refine And.intro (by omega) ?_))
  refine s_mk (n := m) (m := m) (by simp only [vm, ite_true, ite_false, eq_self, reduceIte, Nat.reduceEqDiff, Option.map]) (by simp only [vm, ite_true, ite_false, eq_self, reduceIte, Nat.reduceEqDiff, Option.map]) (Nat.le_refl _) (by omega) ?_
  have hs64 : s < 64 := by omega
  have hp : (18446744073709551616 : Nat) = 2 ^ s * 2 ^ (64 - s) := by rw [← Nat.pow_add, show s + (64 - s) = 64 by omega]
  (repeat (first | refine v_reg ?_ | refine v_last ?_ | refine vwp_seq ?_ | refine vwp_block ?_ | refine vwp_skip ?_ | refine vwp_exit ?_ | refine vwp_ret ?_ | refine v_cond ?_ | simp only [vm, ite_true, ite_false, eq_self, reduceIte, Nat.reduceEqDiff, Option.map] | refine And.intro (by omega) ?_))
  refine v_loop (fun S => ∃ w, w.length = m ∧ Lim 18446744073709551616 w ∧ val 18446744073709551616 w = val 18446744073709551616 (x.drop q) / 2 ^ s ∧ S.ρ 8 = .buf c2 0 m (some m) 1 ∧ S.σ = supd noBlk c2 (nblk w) ∧ c2 + 1 ≤ S.c) ?_ ?_
  · refine vwp_loop (fun k S => ∃ i w, k = m - i ∧ i ≤ m ∧ w.length = i ∧ Lim 18446744073709551616 w ∧ val 18446744073709551616 w * 2 ^ s + (x.drop q).getD 0 0 % 2 ^ s = val 18446744073709551616 ((x.drop q).take i) + 18446744073709551616 ^ i * ((x.drop q).getD i 0 % 2 ^ s) ∧ S.ρ 0 = nats t x ∧ S.ρ 6 = iv q ∧ S.ρ 7 = nv s ∧ S.ρ 33 = iv m ∧ S.ρ 34 = iv i ∧ S.ρ 8 = .buf c2 0 m (some m) 1 ∧ S.σ = supd noBlk c2 (nblk (w ++ List.replicate (m - i) 0)) ∧ c2 + 1 ≤ S.c) m ?_ ?_
    · refine ⟨0, [], by omega, by omega, ?_⟩
      simp only [vm, ite_true, ite_false, eq_self, reduceIte, Nat.reduceEqDiff, Option.map]
      (repeat' apply And.intro) <;> first | rfl | omega | assumption | exact Lim.nil | (rw [d3]) | (simp [val]; done)
    rintro k ⟨ρ2, σ, c4⟩ ⟨i, w, hk, hi, hw, hlw, hinv, h0, h6, h7, h33, h34, h8, hσ, hc4⟩
    dsimp only at h0 h6 h7 h33 h34 h8 hσ hc4
    subst hσ
    by_cases g : (i : Int) < m
    · have hi' : i < m := by omega
      have hxi := hX.getD (i := i) (by decide)
      obtain ⟨o1, o2⟩ := down_limb (y := (x.drop q).getD (i + 1) 0) hs64 hxi
      have e1 : ((q : Int) + (i : Int)).toNat = q + i := by omega
      have e1b : q + i < x.length := by omega
      have e2 : ((q : Int) + (i : Int) + 1).toNat = q + (i + 1) := by omega
      have e3 : min s 64 = s := by omega
      have e4 : (63 + (18446744073709551616 - s % 18446744073709551616)) % 18446744073709551616 = 63 - s := by omega
      have e5 : min (63 - s) 64 = 63 - s := by omega
      have e6 : (x.drop q).getD i 0 / 2 ^ s < 18446744073709551616 := Nat.lt_of_le_of_lt (Nat.div_le_self _ _) hxi
      have e7 : (x.drop q).getD i 0 / 2 ^ s % 18446744073709551616 = (x.drop q).getD i 0 / 2 ^ s := Nat.mod_eq_of_lt e6
      have hlen1 : (w ++ List.replicate (m - i) 0).length = m := by simp; omega
      have hset1 : ∀ v, (w ++ List.replicate (m - i) 0).set i v = w ++ v :: List.replicate (m - (i + 1)) 0 := fun v => by
        conv => lhs; rw [← hw]
        rw [show m - w.length = m - (i + 1) + 1 by omega, List.replicate_succ, set_at]
      have hlen2 : ∀ v, (w ++ v :: List.replicate (m - (i + 1)) 0).length = m := fun v => by simp; omega
      have hget2 : ∀ v, (w ++ v :: List.replicate (m - (i + 1)) 0).getD i 0 = v := fun v => by rw [← hw]; exact getD_at _ _ _
      have hset2 : ∀ v u, (w ++ v :: List.replicate (m - (i + 1)) 0).set i u = w ++ u :: List.replicate (m - (i + 1)) 0 := fun v u => by
        conv => lhs; rw [← hw]
        rw [set_at, hw]
      have key := down_step (y := (x.drop q).getD (i + 1) 0) hw hinv hp rfl
      rw [← val_take (l := x.drop q) (i := i) (by omega)] at key
      have eapp : ∀ v, w ++ v :: List.replicate (m - (i + 1)) 0 = (w ++ [v]) ++ List.replicate (m - (i + 1)) 0 := fun v => by simp
      by_cases g5 : (q : Int) + (i : Int) + 1 < x.length
      · have e2b : q + (i + 1) < x.length := by omega
        (repeat (first | refine v_reg ?_ | refine v_last ?_ | refine vwp_seq ?_ | refine vwp_block ?_ | refine vwp_skip ?_ | refine vwp_exit ?_ | refine vwp_ret ?_ | refine v_cond ?_ | simp only [vm, ite_true, ite_false, eq_self, reduceIte, Nat.reduceEqDiff, Option.map, h0, h6, h7, h33, h34, h8, g, g5, e1, e1b, e2, e2b, hg, e3, e4, e5, e7, hlen1, hset1, hlen2, hget2, hset2, u_or, Nat.mod_mod, o1] | refine And.intro (by omega) ?_))
        refine ⟨m - (i + 1), by omega, i + 1, w ++ [(x.drop q).getD i 0 / 2 ^ s + ((x.drop q).getD (i + 1) 0 % 2 ^ s) * 2 ^ (64 - s)], ?_⟩
        rw [eapp]
        (repeat' apply And.intro) <;> first | rfl | exact key | exact lim_snoc hlw o2 | (simp [hw]; done) | omega | assumption
      · have hy : (x.drop q).getD (i + 1) 0 = 0 := getD_ge (by omega)
        rw [hy, Nat.zero_mod, Nat.zero_mul, Nat.add_zero] at key
        (repeat (first | refine v_reg ?_ | refine v_last ?_ | refine vwp_seq ?_ | refine vwp_block ?_ | refine vwp_skip ?_ | refine vwp_exit ?_ | refine vwp_ret ?_ | refine v_cond ?_ | simp only [vm, ite_true, ite_false, eq_self, reduceIte, Nat.reduceEqDiff, Option.map, h0, h6, h7, h33, h34, h8, g, g5, e1, e1b, e2, hg, e3, e4, e5, e7, hlen1, hset1] | refine And.intro (by omega) ?_))
        refine ⟨m - (i + 1), by omega, i + 1, w ++ [(x.drop q).getD i 0 / 2 ^ s], ?_⟩
        rw [eapp, hy, Nat.zero_mod]
        (repeat' apply And.intro) <;> first | rfl | exact key | exact lim_snoc hlw e6 | (simp [hw]; done) | omega | assumption
    · have hi' : i = m := by omega
      have e8 : (x.drop q).length = m := by rw [hlX, hm]
      subst hi'
      (repeat (first | refine v_reg ?_ | refine v_last ?_ | refine vwp_seq ?_ | refine vwp_block ?_ | refine vwp_skip ?_ | refine vwp_exit ?_ | refine vwp_ret ?_ | refine v_cond ?_ | simp only [vm, ite_true, ite_false, eq_self, reduceIte, Nat.reduceEqDiff, Option.map, h0, h6, h7, h33, h34, h8, g] | refine And.intro (by omega) ?_))
      have e9 : (x.drop q).take i = x.drop q := List.take_of_length_le (Nat.le_of_eq e8)
      rw [e9, getD_ge (l := x.drop q) (Nat.le_of_eq e8), Nat.zero_mod, Nat.mul_zero, Nat.add_zero] at hinv
      refine ⟨w, ?_⟩
      have e0 : w ++ List.replicate (i - i) 0 = w := by simp
      rw [e0]
      have hv : val 18446744073709551616 w = val 18446744073709551616 (x.drop q) / 2 ^ s := (div_mod_of hinv (Nat.mod_lt _ (Nat.two_pow_pos s))).1.symm
      (repeat' apply And.intro) <;> first | rfl | omega | assumption | exact hv
  rintro ⟨ρ3, σ, c5⟩ ⟨w, hw, hlw, hvw, h8, hσ, hc5⟩
  dsimp only at h8 hσ hc5
  subst hσ
  refine v_freeze 8 (t := c2) (off := 0) (n := m) (cap := some m) (l := w) (by simp only [vm, ite_true, ite_false, eq_self, reduceIte, Nat.reduceEqDiff, Option.map, h8]) (by simp only [vm, ite_true, ite_false, eq_self, reduceIte, Nat.reduceEqDiff, Option.map]) (by omega) (by omega) ?_
  rw [List.drop_zero, show w.take m = w from List.take_of_length_le (by omega)]
  (repeat (first | refine v_reg ?_ | refine v_last ?_ | refine vwp_seq ?_ | refine vwp_block ?_ | refine vwp_skip ?_ | refine vwp_exit ?_ | refine vwp_ret ?_ | refine v_cond ?_ | simp only [vm, ite_true, ite_false, eq_self, reduceIte, Nat.reduceEqDiff, Option.map] | refine And.intro (by omega) ?_))
  refine s_call (told_spec (.id c2) w c5 hlw (by omega)) (by simp only [vm, ite_true, ite_false, eq_self, reduceIte, Nat.reduceEqDiff, Option.map, List.map]) ?_
  rintro v c6 hc6 rfl
  rw [hvw, ← hvr]
  by_cases gb : bl (val 18446744073709551616 a / 2 ^ n) ≤ 67108864
  · rw [if_pos gb]
    (repeat (first | refine v_reg ?_ | refine v_last ?_ | refine vwp_seq ?_ | refine vwp_block ?_ | refine vwp_skip ?_ | refine vwp_exit ?_ | refine vwp_ret ?_ | refine v_cond ?_ | simp only [vm, ite_true, ite_false, eq_self, reduceIte, Nat.reduceEqDiff, Option.map] | refine And.intro (by omega) ?_))
    exact .inl ⟨gb, .id c2, rfl, .inr ⟨c2, rfl, by omega, by omega⟩⟩
  · rw [if_neg gb]
    (repeat (first | refine v_reg ?_ | refine v_last ?_ | refine vwp_seq ?_ | refine vwp_block ?_ | refine vwp_skip ?_ | refine vwp_exit ?_ | refine vwp_ret ?_ | refine v_cond ?_ | simp only [vm, ite_true, ite_false, eq_self, reduceIte, Nat.reduceEqDiff, Option.map] | refine And.intro (by omega) ?_))
    exact .inr ⟨by omega, rfl⟩
end Go.Proofs.YtacodmnlnlbahaaGreatDoor
set_option linter.unusedVariables false
namespace Go.Proofs.YtacodmnlnlbahaaGreatDoor
open Go.VM

structure Dy where
  neg : Bool
  m : Nat
  e : Int
def dy0 : Dy := ⟨false, 0, 0⟩
def dyOf (neg : Bool) (n : Nat) (e : Int) : Dy := if n = 0 then dy0 else ⟨neg, od n, e + (tz n : Int)⟩
structure Dy.Ok (d : Dy) : Prop where
  odd : d.m = 0 ∨ d.m % 2 = 1
  zero : d.m = 0 → d = dy0
theorem dyOf_ok (neg : Bool) (n : Nat) (e : Int) : (dyOf neg n e).Ok := by
  unfold dyOf
  split
  · exact ⟨.inl rfl, fun _ => rfl⟩
  · rename_i h
    exact ⟨.inr (tz_od h).2, fun h2 => absurd h2 (Nat.ne_of_gt (od_pos h))⟩
theorem dyOf_self {d : Dy} (h : d.Ok) (k : Int) : dyOf d.neg d.m (d.e + k) = if d.m = 0 then dy0 else ⟨d.neg, d.m, d.e + k⟩ := by
  unfold dyOf
  by_cases g : d.m = 0
  · rw [if_pos g, if_pos g]
  · rw [if_neg g, if_neg g]
    have h1 := h.odd.resolve_left g
    obtain ⟨h2, h3⟩ := tz_uniq (n := d.m) (k := 0) (m := d.m) (by simp) h1
    rw [h2, h3]
    simp
theorem od_le (n : Nat) : od n ≤ n := Nat.div_le_self _ _
theorem dyOf_le (neg : Bool) (n : Nat) (e : Int) : (dyOf neg n e).m ≤ n := by
  unfold dyOf
  split
  · exact Nat.zero_le _
  · exact od_le n
theorem tz_le_bl (n : Nat) : tz n ≤ bl n := by
  by_cases h : n = 0
  · rw [h, tz_zero]; exact Nat.zero_le _
  · exact Nat.le_of_lt (tz_lt h (lt_bl n))
def Dy.sg (d : Dy) : Int := if d.m = 0 then 0 else if d.neg = true then -1 else 1
def Dy.top (d : Dy) : Int := d.e + (bl d.m : Int) - 1
def cmpD (x y : Dy) : Int :=
  if x.sg < y.sg then -1 else if y.sg < x.sg then 1 else if x.sg = 0 then 0 else
  if x.top < y.top then - x.sg else if y.top < x.top then x.sg else
  x.sg * cmpI (x.m * 2 ^ (x.e - y.e).toNat) (y.m * 2 ^ (y.e - x.e).toNat)
theorem sg_cases (d : Dy) : (d.m = 0 ∧ d.sg = 0) ∨ (d.m ≠ 0 ∧ d.neg = true ∧ d.sg = -1) ∨ (d.m ≠ 0 ∧ d.neg = false ∧ d.sg = 1) := by
  unfold Dy.sg
  by_cases g : d.m = 0
  · exact .inl ⟨g, if_pos g⟩
  · rw [if_neg g]
    cases h : d.neg
    · exact .inr (.inr ⟨g, rfl, by simp⟩)
    · exact .inr (.inl ⟨g, rfl, by simp⟩)
theorem bl_shl {x k : Nat} (h : x ≠ 0) : bl (x * 2 ^ k) = bl x + k := by
  have h1 : 2 ^ (bl x - 1) ≤ x := by
    rcases Nat.lt_or_ge x (2 ^ (bl x - 1)) with g | g
    · have := bl_le g
      have := bl_pos (Nat.pos_of_ne_zero h)
      omega
    · exact g
  have h2 := lt_bl x
  have hp : 0 < 2 ^ k := Nat.two_pow_pos k
  have h3 := bl_pos (Nat.pos_of_ne_zero h)
  have e := bl_eq (n := x * 2 ^ k) (k := bl x + k - 1) (by
    rw [show bl x + k - 1 = (bl x - 1) + k by omega, Nat.pow_add]
    exact Nat.mul_le_mul_right _ h1) (by
    rw [show bl x + k - 1 + 1 = bl x + k by omega, Nat.pow_add]
    exact (Nat.mul_lt_mul_right hp).2 h2)
  omega
end Go.Proofs.YtacodmnlnlbahaaGreatDoor
set_option linter.unusedVariables false
namespace Go.Proofs.YtacodmnlnlbahaaGreatDoor
open Go.VM

theorem mag_lt {m n a b : Nat} (hn : n ≠ 0) (h : a + bl m < b + bl n) : m * 2 ^ a < n * 2 ^ b := by
  have h1 : m * 2 ^ a < 2 ^ bl m * 2 ^ a := (Nat.mul_lt_mul_right (Nat.two_pow_pos a)).2 (lt_bl m)
  have h2 : 2 ^ (bl n - 1) * 2 ^ b ≤ n * 2 ^ b := Nat.mul_le_mul_right _ (le_of_bl (Nat.pos_of_ne_zero hn))
  have h3 : 2 ^ bl m * 2 ^ a ≤ 2 ^ (bl n - 1) * 2 ^ b := by
    rw [← Nat.pow_add, ← Nat.pow_add]
    exact Nat.pow_le_pow_right (by decide) (by omega)
  omega
theorem mag_cut {m n a b : Nat} : m * 2 ^ a < n * 2 ^ b ↔ m * 2 ^ (a - b) < n * 2 ^ (b - a) := by
  rcases Nat.le_total a b with h | h
  · obtain ⟨k, rfl⟩ := Nat.exists_eq_add_of_le h
    rw [Nat.sub_eq_zero_of_le h, Nat.add_sub_cancel_left, Nat.pow_add, Nat.pow_zero, Nat.mul_one, Nat.mul_comm (2 ^ a), ← Nat.mul_assoc]
    exact Nat.mul_lt_mul_right (Nat.two_pow_pos a)
  · obtain ⟨k, rfl⟩ := Nat.exists_eq_add_of_le h
    rw [Nat.sub_eq_zero_of_le h, Nat.add_sub_cancel_left, Nat.pow_add, Nat.pow_zero, Nat.mul_one, Nat.mul_comm (2 ^ b), ← Nat.mul_assoc]
    exact Nat.mul_lt_mul_right (Nat.two_pow_pos b)
theorem cmpI_cases (a b : Nat) : (a < b ∧ cmpI a b = -1) ∨ (a = b ∧ cmpI a b = 0) ∨ (b < a ∧ cmpI a b = 1) := by
  unfold cmpI
  rcases Nat.lt_trichotomy a b with h | h | h
  · exact .inl ⟨h, if_pos h⟩
  · exact .inr (.inl ⟨h, by rw [if_neg (by omega), if_pos h]⟩)
  · exact .inr (.inr ⟨h, by rw [if_neg (by omega), if_neg (by omega)]⟩)
theorem mag_cmp (m n a b : Nat) : cmpI (m * 2 ^ (a - b)) (n * 2 ^ (b - a)) = cmpI (m * 2 ^ a) (n * 2 ^ b) := by
  have h1 := mag_cut (m := m) (n := n) (a := a) (b := b)
  have h2 := mag_cut (m := n) (n := m) (a := b) (b := a)
  rcases cmpI_cases (m * 2 ^ (a - b)) (n * 2 ^ (b - a)) with ⟨h, e⟩ | ⟨h, e⟩ | ⟨h, e⟩ <;> rw [e] <;>
    rcases cmpI_cases (m * 2 ^ a) (n * 2 ^ b) with ⟨h', e'⟩ | ⟨h', e'⟩ | ⟨h', e'⟩ <;> rw [e'] <;> first | rfl | (exfalso; omega)
def cmpM (x y : Dy) : Int := if x.top < y.top then -1 else if y.top < x.top then 1 else cmpI (x.m * 2 ^ (x.e - y.e).toNat) (y.m * 2 ^ (y.e - x.e).toNat)
theorem cmpM_eq {x y : Dy} {E : Int} (hx : x.m ≠ 0) (hy : y.m ≠ 0) (ex : E ≤ x.e) (ey : E ≤ y.e) : cmpM x y = cmpI (x.m * 2 ^ (x.e - E).toNat) (y.m * 2 ^ (y.e - E).toNat) := by
  unfold cmpM Dy.top
  have bx := bl_pos (Nat.pos_of_ne_zero hx)
  have by' := bl_pos (Nat.pos_of_ne_zero hy)
  split
  · rename_i h
    have := mag_lt (m := x.m) (a := (x.e - E).toNat) (b := (y.e - E).toNat) hy (by omega)
    unfold cmpI
    rw [if_pos this]
  · split
    · rename_i h
      have := mag_lt (m := y.m) (a := (y.e - E).toNat) (b := (x.e - E).toNat) hx (by omega)
      unfold cmpI
      rw [if_neg (by omega), if_neg (by omega)]
    · have e1 : (x.e - y.e).toNat = (x.e - E).toNat - (y.e - E).toNat := by omega
      have e2 : (y.e - x.e).toNat = (y.e - E).toNat - (x.e - E).toNat := by omega
      rw [e1, e2, mag_cmp]
theorem cmpD_eq (x y : Dy) : cmpD x y = if x.sg < y.sg then -1 else if y.sg < x.sg then 1 else if x.sg = 0 then 0 else x.sg * cmpM x y := by
  unfold cmpD cmpM
  repeat' split
  all_goals first | rfl | omega
def zv (E : Int) (d : Dy) : Int := d.sg * ((d.m * 2 ^ (d.e - E).toNat : Nat) : Int)
def sgn (z : Int) : Int := if z < 0 then -1 else if z = 0 then 0 else 1
theorem sgn_cases (z : Int) : (z < 0 ∧ sgn z = -1) ∨ (z = 0 ∧ sgn z = 0) ∨ (0 < z ∧ sgn z = 1) := by
  unfold sgn
  rcases Int.lt_trichotomy z 0 with h | h | h
  · exact .inl ⟨h, if_pos h⟩
  · exact .inr (.inl ⟨h, by rw [if_neg (by omega), if_pos h]⟩)
  · exact .inr (.inr ⟨h, by rw [if_neg (by omega), if_neg (by omega)]⟩)
theorem cmpD_zv {x y : Dy} {E : Int} (ex : E ≤ x.e) (ey : E ≤ y.e) : cmpD x y = sgn (zv E x - zv E y) := by
  have px : x.m ≠ 0 → 0 < x.m * 2 ^ (x.e - E).toNat := fun h => Nat.mul_pos (Nat.pos_of_ne_zero h) (Nat.two_pow_pos _)
  have py : y.m ≠ 0 → 0 < y.m * 2 ^ (y.e - E).toNat := fun h => Nat.mul_pos (Nat.pos_of_ne_zero h) (Nat.two_pow_pos _)
  rw [cmpD_eq]
  unfold zv
  have hm : x.m ≠ 0 → y.m ≠ 0 → _ := fun h1 h2 => cmpM_eq h1 h2 ex ey
  generalize hX : x.m * 2 ^ (x.e - E).toNat = X at *
  generalize hY : y.m * 2 ^ (y.e - E).toNat = Y at *
  rcases sg_cases x with ⟨h1, h2⟩ | ⟨h1, _, h2⟩ | ⟨h1, _, h2⟩ <;> rcases sg_cases y with ⟨g1, g2⟩ | ⟨g1, _, g2⟩ | ⟨g1, _, g2⟩ <;> rw [h2, g2]
  · simp [sgn]
  · have := py g1
    rcases sgn_cases (0 * (X : Int) - -1 * (Y : Int)) with ⟨a, b⟩ | ⟨a, b⟩ | ⟨a, b⟩ <;> rw [b] <;> first | rfl | (exfalso; omega)
  · have := py g1
    rcases sgn_cases (0 * (X : Int) - 1 * (Y : Int)) with ⟨a, b⟩ | ⟨a, b⟩ | ⟨a, b⟩ <;> rw [b] <;> first | rfl | (exfalso; omega)
  · have := px h1
    rcases sgn_cases (-1 * (X : Int) - 0 * (Y : Int)) with ⟨a, b⟩ | ⟨a, b⟩ | ⟨a, b⟩ <;> rw [b] <;> first | rfl | (exfalso; omega)
  · rw [hm h1 g1]
    rcases cmpI_cases X Y with ⟨p, q⟩ | ⟨p, q⟩ | ⟨p, q⟩ <;> rw [q] <;>
      rcases sgn_cases (-1 * (X : Int) - -1 * (Y : Int)) with ⟨a, b⟩ | ⟨a, b⟩ | ⟨a, b⟩ <;> rw [b] <;> first | rfl | (exfalso; omega)
  · have := px h1
    have := py g1
    rcases sgn_cases (-1 * (X : Int) - 1 * (Y : Int)) with ⟨a, b⟩ | ⟨a, b⟩ | ⟨a, b⟩ <;> rw [b] <;> first | rfl | (exfalso; omega)
  · have := px h1
    rcases sgn_cases (1 * (X : Int) - 0 * (Y : Int)) with ⟨a, b⟩ | ⟨a, b⟩ | ⟨a, b⟩ <;> rw [b] <;> first | rfl | (exfalso; omega)
  · have := px h1
    have := py g1
    rcases sgn_cases (1 * (X : Int) - -1 * (Y : Int)) with ⟨a, b⟩ | ⟨a, b⟩ | ⟨a, b⟩ <;> rw [b] <;> first | rfl | (exfalso; omega)
  · rw [hm h1 g1]
    rcases cmpI_cases X Y with ⟨p, q⟩ | ⟨p, q⟩ | ⟨p, q⟩ <;> rw [q] <;>
      rcases sgn_cases (1 * (X : Int) - 1 * (Y : Int)) with ⟨a, b⟩ | ⟨a, b⟩ | ⟨a, b⟩ <;> rw [b] <;> first | rfl | (exfalso; omega)
theorem cmpD_flip (x y : Dy) : cmpD y x = - cmpD x y := by
  obtain ⟨E, h1, h2⟩ : ∃ E : Int, E ≤ x.e ∧ E ≤ y.e := ⟨min x.e y.e, by omega, by omega⟩
  rw [cmpD_zv h1 h2, cmpD_zv h2 h1]
  rcases sgn_cases (zv E x - zv E y) with ⟨a, b⟩ | ⟨a, b⟩ | ⟨a, b⟩ <;> rw [b] <;>
    rcases sgn_cases (zv E y - zv E x) with ⟨p, q⟩ | ⟨p, q⟩ | ⟨p, q⟩ <;> rw [q] <;> first | rfl | (exfalso; omega)
theorem cmpD_cases (x y : Dy) : cmpD x y = -1 ∨ cmpD x y = 0 ∨ cmpD x y = 1 := by
  obtain ⟨E, h1, h2⟩ : ∃ E : Int, E ≤ x.e ∧ E ≤ y.e := ⟨min x.e y.e, by omega, by omega⟩
  rw [cmpD_zv h1 h2]
  rcases sgn_cases (zv E x - zv E y) with ⟨a, b⟩ | ⟨a, b⟩ | ⟨a, b⟩ <;> rw [b] <;> simp
def leD (x y : Dy) : Prop := cmpD x y ≤ 0
theorem leD_iff {x y : Dy} {E : Int} (ex : E ≤ x.e) (ey : E ≤ y.e) : leD x y ↔ zv E x ≤ zv E y := by
  unfold leD
  rw [cmpD_zv ex ey]
  rcases sgn_cases (zv E x - zv E y) with ⟨a, b⟩ | ⟨a, b⟩ | ⟨a, b⟩ <;> rw [b] <;> omega
theorem leD_trans {x y z : Dy} (h1 : leD x y) (h2 : leD y z) : leD x z := by
  obtain ⟨E, e1, e2, e3⟩ : ∃ E : Int, E ≤ x.e ∧ E ≤ y.e ∧ E ≤ z.e := ⟨min x.e (min y.e z.e), by omega, by omega, by omega⟩
  rw [leD_iff e1 e2] at h1
  rw [leD_iff e2 e3] at h2
  rw [leD_iff e1 e3]
  omega
def minD (x y : Dy) : Dy := if cmpD x y ≤ 0 then x else y
def maxD (x y : Dy) : Dy := if 0 ≤ cmpD x y then x else y
end Go.Proofs.YtacodmnlnlbahaaGreatDoor
set_option linter.unusedVariables false
set_option linter.unusedSimpArgs false
namespace Go.Proofs.YtacodmnlnlbahaaGreatDoor
open Go.VM

theorem dyOf_id {d : Dy} (h : d.Ok) : dyOf d.neg d.m d.e = d := by
  have := dyOf_self h 0
  rw [Int.add_zero] at this
  rw [this]
  split
  · rename_i g; exact (h.zero g).symm
  · rfl
theorem sg_sign {d : Dy} (h : d.m ≠ 0) : d.sg = if d.neg = true then -1 else 1 := by unfold Dy.sg; rw [if_neg h]
def fitE (e : Int) : Prop := -1099511627776 ≤ e ∧ e ≤ 1099511627776
instance (e : Int) : Decidable (fitE e) := by unfold fitE; infer_instance
def tE (d : Dy) : Int := if 67108864 < bl d.m then 3 else if fitE d.e then 0 else 80
def worstE (e f : Int) : Int := if e = 3 ∨ f = 3 then 3 else if e ≠ 0 then e else f
theorem tE_cases (d : Dy) : (67108864 < bl d.m ∧ tE d = 3) ∨ (bl d.m ≤ 67108864 ∧ fitE d.e ∧ tE d = 0) ∨ (bl d.m ≤ 67108864 ∧ ¬ fitE d.e ∧ tE d = 80) := by
  unfold tE
  by_cases h : 67108864 < bl d.m
  · exact .inl ⟨h, if_pos h⟩
  · rw [if_neg h]
    by_cases g : fitE d.e
    · exact .inr (.inl ⟨by omega, g, if_pos g⟩)
    · exact .inr (.inr ⟨by omega, g, if_neg g⟩)
end Go.Proofs.YtacodmnlnlbahaaGreatDoor
set_option linter.unusedSimpArgs false
set_option linter.unusedVariables false
set_option maxRecDepth 100000
set_option maxHeartbeats 8000000
namespace Go.Proofs.YtacodmnlnlbahaaGreatDoor
open Go.VM

abbrev whV (neg : Bool) (t : Tok) (l : List Nat) : V := .agg [bv neg, nats t l]
abbrev raV (neg : Bool) (t : Tok) (l : List Nat) (e : Int) : V := .agg [bv neg, nats t l, iv e]
abbrev dyV (t : Tok) (d : Dy) : V := raV d.neg t (digs 18446744073709551616 d.m) d.e
def sgW (neg : Bool) (n : Nat) : Int := if n = 0 then 0 else if neg = true then -1 else 1
theorem sgW_dy (d : Dy) : sgW d.neg d.m = d.sg := rfl

theorem within_spec (e : Int) (c : Nat) : VSpec Tryz.prog F.dyadic_within c [iv e] (fun r _ => r = bv (decide (fitE e))) := by
  refine spec_mk hm E.dyadic_within B.dyadic_within K.dyadic_within Q.dyadic_within (by rw [N.dyadic_within]; simp) ?_
  unfold C.dyadic_within R.dyadic_within
  by_cases g1 : -1099511627776 ≤ e
  · by_cases g2 : e ≤ 1099511627776
    · have g : fitE e := ⟨g1, g2⟩
      (repeat (first | refine v_reg ?_ | refine v_last ?_ | refine vwp_seq ?_ | refine vwp_block ?_ | refine vwp_skip ?_ | refine vwp_exit ?_ | refine vwp_ret ?_ | refine v_cond ?_ | simp only [vm, ite_true, ite_false, eq_self, reduceIte, Nat.reduceEqDiff, Option.map, g1, g2, g] | refine And.intro (by omega) ?_))
      omega
    · have g : ¬ fitE e := fun h => g2 h.2
      (repeat (first | refine v_reg ?_ | refine v_last ?_ | refine vwp_seq ?_ | refine vwp_block ?_ | refine vwp_skip ?_ | refine vwp_exit ?_ | refine vwp_ret ?_ | refine v_cond ?_ | simp only [vm, ite_true, ite_false, eq_self, reduceIte, Nat.reduceEqDiff, Option.map, g1, g2, g] | refine And.intro (by omega) ?_))
      omega
  · have g : ¬ fitE e := fun h => g1 h.1
    (repeat (first | refine v_reg ?_ | refine v_last ?_ | refine vwp_seq ?_ | refine vwp_block ?_ | refine vwp_skip ?_ | refine vwp_exit ?_ | refine vwp_ret ?_ | refine v_cond ?_ | simp only [vm, ite_true, ite_false, eq_self, reduceIte, Nat.reduceEqDiff, Option.map, g1, g] | refine And.intro (by omega) ?_))
    omega

theorem sign_spec (neg : Bool) (t : Tok) (l : List Nat) (c : Nat) (hl : Lim 18446744073709551616 l) (hn : l.length ≤ 4398046511104) : VSpec Tryz.prog F.whole_Sign c [whV neg t l] (fun r _ => r = iv (sgW neg (val 18446744073709551616 l))) := by
  refine spec_mk hm E.whole_Sign B.whole_Sign K.whole_Sign Q.whole_Sign (by rw [N.whole_Sign]; simp) ?_
  unfold C.whole_Sign R.whole_Sign
  (repeat (first | refine v_reg ?_ | refine v_last ?_ | refine vwp_seq ?_ | refine vwp_block ?_ | refine vwp_skip ?_ | refine vwp_exit ?_ | refine vwp_ret ?_ | refine v_cond ?_ | simp (maxSteps := 4000000) (disch := omega) only [vm, ite_true, ite_false, eq_self, reduceIte, Nat.reduceEqDiff, Option.map, vst, List.length_cons, List.length_nil, List.set_cons_zero, List.set_cons_succ, List.map_cons, List.map_nil, Option.map_some, Option.bind_some, Nat.reduceAdd, Nat.reduceLT, Nat.reduceLeDiff, Nat.add_zero, and_self, k_ne, Nat.add_left_cancel_iff, ne_eq, Int.reduceEq, Int.reduceLT, Int.reduceLE, List.cons_append, List.nil_append, Nat.reduceDiv, Nat.reduceMul, Int.reduceToNat, Int.reduceAdd, Int.cast_ofNat_Int] | refine And.intro (by omega) ?_))
  refine s_call (length_spec t l (c + 1) hl hn) (by simp (maxSteps := 4000000) (disch := omega) only [vm, ite_true, ite_false, eq_self, reduceIte, Nat.reduceEqDiff, Option.map, vst, List.length_cons, List.length_nil, List.set_cons_zero, List.set_cons_succ, List.map_cons, List.map_nil, Option.map_some, Option.bind_some, Nat.reduceAdd, Nat.reduceLT, Nat.reduceLeDiff, Nat.add_zero, and_self, k_ne, Nat.add_left_cancel_iff, ne_eq, Int.reduceEq, Int.reduceLT, Int.reduceLE, List.cons_append, List.nil_append, Nat.reduceDiv, Nat.reduceMul, Int.reduceToNat, Int.reduceAdd, Int.cast_ofNat_Int]) ?_
  rintro v c1 hc1 rfl
  by_cases g : val 18446744073709551616 l = 0
  · have e : (bl (val 18446744073709551616 l) : Int) = 0 := by rw [g]; rfl
    (repeat (first | refine v_reg ?_ | refine v_last ?_ | refine vwp_seq ?_ | refine vwp_block ?_ | refine vwp_skip ?_ | refine vwp_exit ?_ | refine vwp_ret ?_ | refine v_cond ?_ | simp (maxSteps := 4000000) (disch := omega) only [vm, ite_true, ite_false, eq_self, reduceIte, Nat.reduceEqDiff, Option.map, vst, List.length_cons, List.length_nil, List.set_cons_zero, List.set_cons_succ, List.map_cons, List.map_nil, Option.map_some, Option.bind_some, Nat.reduceAdd, Nat.reduceLT, Nat.reduceLeDiff, Nat.add_zero, and_self, k_ne, Nat.add_left_cancel_iff, ne_eq, Int.reduceEq, Int.reduceLT, Int.reduceLE, List.cons_append, List.nil_append, Nat.reduceDiv, Nat.reduceMul, Int.reduceToNat, Int.reduceAdd, Int.cast_ofNat_Int, e] | refine And.intro (by omega) ?_))
    unfold sgW; rw [if_pos g]
  · have e : ¬ (bl (val 18446744073709551616 l) : Int) = 0 := by have := bl_pos (Nat.pos_of_ne_zero g); omega
    cases neg
    · (repeat (first | refine v_reg ?_ | refine v_last ?_ | refine vwp_seq ?_ | refine vwp_block ?_ | refine vwp_skip ?_ | refine vwp_exit ?_ | refine vwp_ret ?_ | refine v_cond ?_ | simp (maxSteps := 4000000) (disch := omega) only [vm, ite_true, ite_false, eq_self, reduceIte, Nat.reduceEqDiff, Option.map, vst, List.length_cons, List.length_nil, List.set_cons_zero, List.set_cons_succ, List.map_cons, List.map_nil, Option.map_some, Option.bind_some, Nat.reduceAdd, Nat.reduceLT, Nat.reduceLeDiff, Nat.add_zero, and_self, k_ne, Nat.add_left_cancel_iff, ne_eq, Int.reduceEq, Int.reduceLT, Int.reduceLE, List.cons_append, List.nil_append, Nat.reduceDiv, Nat.reduceMul, Int.reduceToNat, Int.reduceAdd, Int.cast_ofNat_Int, e] | refine And.intro (by omega) ?_))
      unfold sgW; rw [if_neg g]; rfl
    · (repeat (first | refine v_reg ?_ | refine v_last ?_ | refine vwp_seq ?_ | refine vwp_block ?_ | refine vwp_skip ?_ | refine vwp_exit ?_ | refine vwp_ret ?_ | refine v_cond ?_ | simp (maxSteps := 4000000) (disch := omega) only [vm, ite_true, ite_false, eq_self, reduceIte, Nat.reduceEqDiff, Option.map, vst, List.length_cons, List.length_nil, List.set_cons_zero, List.set_cons_succ, List.map_cons, List.map_nil, Option.map_some, Option.bind_some, Nat.reduceAdd, Nat.reduceLT, Nat.reduceLeDiff, Nat.add_zero, and_self, k_ne, Nat.add_left_cancel_iff, ne_eq, Int.reduceEq, Int.reduceLT, Int.reduceLE, List.cons_append, List.nil_append, Nat.reduceDiv, Nat.reduceMul, Int.reduceToNat, Int.reduceAdd, Int.cast_ofNat_Int, e] | refine And.intro (by omega) ?_))
      unfold sgW; rw [if_neg g]; rfl

theorem psign_spec (neg : Bool) (t : Tok) (l : List Nat) (c : Nat) (hl : Lim 18446744073709551616 l) (hn : l.length ≤ 4398046511104) : VSpec Tryz.prog F.dyadic_part_sign c [whV neg t l] (fun r _ => r = iv (sgW neg (val 18446744073709551616 l))) := by
  refine spec_mk hm E.dyadic_part_sign B.dyadic_part_sign K.dyadic_part_sign Q.dyadic_part_sign (by rw [N.dyadic_part_sign]; simp) ?_
  unfold C.dyadic_part_sign R.dyadic_part_sign
  (repeat (first | refine v_reg ?_ | refine v_last ?_ | refine vwp_seq ?_ | refine vwp_block ?_ | refine vwp_skip ?_ | refine vwp_exit ?_ | refine vwp_ret ?_ | refine v_cond ?_ | simp (maxSteps := 4000000) (disch := omega) only [vm, ite_true, ite_false, eq_self, reduceIte, Nat.reduceEqDiff, Option.map, vst, List.length_cons, List.length_nil, List.set_cons_zero, List.set_cons_succ, List.map_cons, List.map_nil, Option.map_some, Option.bind_some, Nat.reduceAdd, Nat.reduceLT, Nat.reduceLeDiff, Nat.add_zero, and_self, k_ne, Nat.add_left_cancel_iff, ne_eq, Int.reduceEq, Int.reduceLT, Int.reduceLE, List.cons_append, List.nil_append, Nat.reduceDiv, Nat.reduceMul, Int.reduceToNat, Int.reduceAdd, Int.cast_ofNat_Int] | refine And.intro (by omega) ?_))
  refine s_call (sign_spec neg t l (c + 1) hl hn) (by simp (maxSteps := 4000000) (disch := omega) only [vm, ite_true, ite_false, eq_self, reduceIte, Nat.reduceEqDiff, Option.map, vst, List.length_cons, List.length_nil, List.set_cons_zero, List.set_cons_succ, List.map_cons, List.map_nil, Option.map_some, Option.bind_some, Nat.reduceAdd, Nat.reduceLT, Nat.reduceLeDiff, Nat.add_zero, and_self, k_ne, Nat.add_left_cancel_iff, ne_eq, Int.reduceEq, Int.reduceLT, Int.reduceLE, List.cons_append, List.nil_append, Nat.reduceDiv, Nat.reduceMul, Int.reduceToNat, Int.reduceAdd, Int.cast_ofNat_Int]) ?_
  rintro v c1 hc1 rfl
  (repeat (first | refine v_reg ?_ | refine v_last ?_ | refine vwp_seq ?_ | refine vwp_block ?_ | refine vwp_skip ?_ | refine vwp_exit ?_ | refine vwp_ret ?_ | refine v_cond ?_ | simp (maxSteps := 4000000) (disch := omega) only [vm, ite_true, ite_false, eq_self, reduceIte, Nat.reduceEqDiff, Option.map, vst, List.length_cons, List.length_nil, List.set_cons_zero, List.set_cons_succ, List.map_cons, List.map_nil, Option.map_some, Option.bind_some, Nat.reduceAdd, Nat.reduceLT, Nat.reduceLeDiff, Nat.add_zero, and_self, k_ne, Nat.add_left_cancel_iff, ne_eq, Int.reduceEq, Int.reduceLT, Int.reduceLE, List.cons_append, List.nil_append, Nat.reduceDiv, Nat.reduceMul, Int.reduceToNat, Int.reduceAdd, Int.cast_ofNat_Int] | refine And.intro (by omega) ?_))
  (first | omega | rfl | ((repeat' apply And.intro) <;> first | rfl | omega | assumption))
theorem plen_spec (neg : Bool) (t : Tok) (l : List Nat) (c : Nat) (hl : Lim 18446744073709551616 l) (hn : l.length ≤ 4398046511104) : VSpec Tryz.prog F.dyadic_part_length c [whV neg t l] (fun r _ => r = iv (bl (val 18446744073709551616 l))) := by
  refine spec_mk hm E.dyadic_part_length B.dyadic_part_length K.dyadic_part_length Q.dyadic_part_length (by rw [N.dyadic_part_length]; simp) ?_
  unfold C.dyadic_part_length R.dyadic_part_length
  (repeat (first | refine v_reg ?_ | refine v_last ?_ | refine vwp_seq ?_ | refine vwp_block ?_ | refine vwp_skip ?_ | refine vwp_exit ?_ | refine vwp_ret ?_ | refine v_cond ?_ | simp (maxSteps := 4000000) (disch := omega) only [vm, ite_true, ite_false, eq_self, reduceIte, Nat.reduceEqDiff, Option.map, vst, List.length_cons, List.length_nil, List.set_cons_zero, List.set_cons_succ, List.map_cons, List.map_nil, Option.map_some, Option.bind_some, Nat.reduceAdd, Nat.reduceLT, Nat.reduceLeDiff, Nat.add_zero, and_self, k_ne, Nat.add_left_cancel_iff, ne_eq, Int.reduceEq, Int.reduceLT, Int.reduceLE, List.cons_append, List.nil_append, Nat.reduceDiv, Nat.reduceMul, Int.reduceToNat, Int.reduceAdd, Int.cast_ofNat_Int] | refine And.intro (by omega) ?_))
  refine s_call (length_spec t l (c + 1) hl hn) (by simp (maxSteps := 4000000) (disch := omega) only [vm, ite_true, ite_false, eq_self, reduceIte, Nat.reduceEqDiff, Option.map, vst, List.length_cons, List.length_nil, List.set_cons_zero, List.set_cons_succ, List.map_cons, List.map_nil, Option.map_some, Option.bind_some, Nat.reduceAdd, Nat.reduceLT, Nat.reduceLeDiff, Nat.add_zero, and_self, k_ne, Nat.add_left_cancel_iff, ne_eq, Int.reduceEq, Int.reduceLT, Int.reduceLE, List.cons_append, List.nil_append, Nat.reduceDiv, Nat.reduceMul, Int.reduceToNat, Int.reduceAdd, Int.cast_ofNat_Int]) ?_
  rintro v c1 hc1 rfl
  (repeat (first | refine v_reg ?_ | refine v_last ?_ | refine vwp_seq ?_ | refine vwp_block ?_ | refine vwp_skip ?_ | refine vwp_exit ?_ | refine vwp_ret ?_ | refine v_cond ?_ | simp (maxSteps := 4000000) (disch := omega) only [vm, ite_true, ite_false, eq_self, reduceIte, Nat.reduceEqDiff, Option.map, vst, List.length_cons, List.length_nil, List.set_cons_zero, List.set_cons_succ, List.map_cons, List.map_nil, Option.map_some, Option.bind_some, Nat.reduceAdd, Nat.reduceLT, Nat.reduceLeDiff, Nat.add_zero, and_self, k_ne, Nat.add_left_cancel_iff, ne_eq, Int.reduceEq, Int.reduceLT, Int.reduceLE, List.cons_append, List.nil_append, Nat.reduceDiv, Nat.reduceMul, Int.reduceToNat, Int.reduceAdd, Int.cast_ofNat_Int] | refine And.intro (by omega) ?_))
  (first | omega | rfl | ((repeat' apply And.intro) <;> first | rfl | omega | assumption))

theorem shifted_spec (t : Tok) (l : List Nat) (k c : Nat) (hl : Lim 18446744073709551616 l) (hn : l.length ≤ 17179869184) (hk : k ≤ 1099511627776) (hb : bl (val 18446744073709551616 l / 2 ^ k) ≤ 67108864) : VSpec Tryz.prog F.dyadic_shifted c [nats t l, iv (k : Int)] (fun r c' => NatR c c' (val 18446744073709551616 l / 2 ^ k) r) := by
  refine spec_mk hm E.dyadic_shifted B.dyadic_shifted K.dyadic_shifted Q.dyadic_shifted (by rw [N.dyadic_shifted]; simp) ?_
  unfold C.dyadic_shifted R.dyadic_shifted
  (repeat (first | refine v_reg ?_ | refine v_last ?_ | refine vwp_seq ?_ | refine vwp_block ?_ | refine vwp_skip ?_ | refine vwp_exit ?_ | refine vwp_ret ?_ | refine v_cond ?_ | simp (maxSteps := 4000000) (disch := omega) only [vm, ite_true, ite_false, eq_self, reduceIte, Nat.reduceEqDiff, Option.map, vst, List.length_cons, List.length_nil, List.set_cons_zero, List.set_cons_succ, List.map_cons, List.map_nil, Option.map_some, Option.bind_some, Nat.reduceAdd, Nat.reduceLT, Nat.reduceLeDiff, Nat.add_zero, and_self, k_ne, Nat.add_left_cancel_iff, ne_eq, Int.reduceEq, Int.reduceLT, Int.reduceLE, List.cons_append, List.nil_append, Nat.reduceDiv, Nat.reduceMul, Int.reduceToNat, Int.reduceAdd, Int.cast_ofNat_Int] | refine And.intro (by omega) ?_))
  refine s_call (right_spec t l k c hl (by omega) hk) (by simp (maxSteps := 4000000) (disch := omega) only [vm, ite_true, ite_false, eq_self, reduceIte, Nat.reduceEqDiff, Option.map, vst, List.length_cons, List.length_nil, List.set_cons_zero, List.set_cons_succ, List.map_cons, List.map_nil, Option.map_some, Option.bind_some, Nat.reduceAdd, Nat.reduceLT, Nat.reduceLeDiff, Nat.add_zero, and_self, k_ne, Nat.add_left_cancel_iff, ne_eq, Int.reduceEq, Int.reduceLT, Int.reduceLE, List.cons_append, List.nil_append, Nat.reduceDiv, Nat.reduceMul, Int.reduceToNat, Int.reduceAdd, Int.cast_ofNat_Int]) ?_
  rintro v c1 hc1 (⟨_, tk, rfl, htk⟩ | ⟨h, _⟩)
  · (repeat (first | refine v_reg ?_ | refine v_last ?_ | refine vwp_seq ?_ | refine vwp_block ?_ | refine vwp_skip ?_ | refine vwp_exit ?_ | refine vwp_ret ?_ | refine v_cond ?_ | simp (maxSteps := 4000000) (disch := omega) only [vm, ite_true, ite_false, eq_self, reduceIte, Nat.reduceEqDiff, Option.map, vst, List.length_cons, List.length_nil, List.set_cons_zero, List.set_cons_succ, List.map_cons, List.map_nil, Option.map_some, Option.bind_some, Nat.reduceAdd, Nat.reduceLT, Nat.reduceLeDiff, Nat.add_zero, and_self, k_ne, Nat.add_left_cancel_iff, ne_eq, Int.reduceEq, Int.reduceLT, Int.reduceLE, List.cons_append, List.nil_append, Nat.reduceDiv, Nat.reduceMul, Int.reduceToNat, Int.reduceAdd, Int.cast_ofNat_Int] | refine And.intro (by omega) ?_))
    exact ⟨tk, rfl, htk⟩
  · omega
theorem left_fast (t : Tok) (l : List Nat) (k c : Nat) (hl : Lim 18446744073709551616 l) (hn : l.length ≤ 17179869184) (hk : k ≤ 1099511627776) (hb : bl (val 18446744073709551616 l * 2 ^ k) ≤ 67108864) : VSpec Tryz.prog F.dyadic_left c [nats t l, iv (k : Int)] (fun r c' => NatR c c' (val 18446744073709551616 l * 2 ^ k) r) := by
  refine spec_mk hm E.dyadic_left B.dyadic_left K.dyadic_left Q.dyadic_left (by rw [N.dyadic_left]; simp) ?_
  unfold C.dyadic_left R.dyadic_left
  (repeat (first | refine v_reg ?_ | refine v_last ?_ | refine vwp_seq ?_ | refine vwp_block ?_ | refine vwp_skip ?_ | refine vwp_exit ?_ | refine vwp_ret ?_ | refine v_cond ?_ | simp (maxSteps := 4000000) (disch := omega) only [vm, ite_true, ite_false, eq_self, reduceIte, Nat.reduceEqDiff, Option.map, vst, List.length_cons, List.length_nil, List.set_cons_zero, List.set_cons_succ, List.map_cons, List.map_nil, Option.map_some, Option.bind_some, Nat.reduceAdd, Nat.reduceLT, Nat.reduceLeDiff, Nat.add_zero, and_self, k_ne, Nat.add_left_cancel_iff, ne_eq, Int.reduceEq, Int.reduceLT, Int.reduceLE, List.cons_append, List.nil_append, Nat.reduceDiv, Nat.reduceMul, Int.reduceToNat, Int.reduceAdd, Int.cast_ofNat_Int] | refine And.intro (by omega) ?_))
  refine s_call (left_spec t l k c hl (by omega) (by omega)) (by simp (maxSteps := 4000000) (disch := omega) only [vm, ite_true, ite_false, eq_self, reduceIte, Nat.reduceEqDiff, Option.map, vst, List.length_cons, List.length_nil, List.set_cons_zero, List.set_cons_succ, List.map_cons, List.map_nil, Option.map_some, Option.bind_some, Nat.reduceAdd, Nat.reduceLT, Nat.reduceLeDiff, Nat.add_zero, and_self, k_ne, Nat.add_left_cancel_iff, ne_eq, Int.reduceEq, Int.reduceLT, Int.reduceLE, List.cons_append, List.nil_append, Nat.reduceDiv, Nat.reduceMul, Int.reduceToNat, Int.reduceAdd, Int.cast_ofNat_Int]) ?_
  rintro v c1 hc1 (⟨_, tk, rfl, htk⟩ | ⟨h, _⟩)
  · (repeat (first | refine v_reg ?_ | refine v_last ?_ | refine vwp_seq ?_ | refine vwp_block ?_ | refine vwp_skip ?_ | refine vwp_exit ?_ | refine vwp_ret ?_ | refine v_cond ?_ | simp (maxSteps := 4000000) (disch := omega) only [vm, ite_true, ite_false, eq_self, reduceIte, Nat.reduceEqDiff, Option.map, vst, List.length_cons, List.length_nil, List.set_cons_zero, List.set_cons_succ, List.map_cons, List.map_nil, Option.map_some, Option.bind_some, Nat.reduceAdd, Nat.reduceLT, Nat.reduceLeDiff, Nat.add_zero, and_self, k_ne, Nat.add_left_cancel_iff, ne_eq, Int.reduceEq, Int.reduceLT, Int.reduceLE, List.cons_append, List.nil_append, Nat.reduceDiv, Nat.reduceMul, Int.reduceToNat, Int.reduceAdd, Int.cast_ofNat_Int] | refine And.intro (by omega) ?_))
    exact ⟨tk, rfl, htk⟩
  · omega

theorem odd_spec (neg : Bool) (t : Tok) (l : List Nat) (e : Int) (c : Nat) (hl : Lim 18446744073709551616 l) (hn : l.length ≤ 17179869184) (he1 : -4611686018427387904 ≤ e) (he2 : e ≤ 4611686018427387904) (hb : tz (val 18446744073709551616 l) = 0 ∨ bl (od (val 18446744073709551616 l)) ≤ 67108864) :
    VSpec Tryz.prog F.dyadic_odd c [whV neg t l, iv e] (fun r c' => ∃ tk, r = dyV tk (dyOf neg (val 18446744073709551616 l) e) ∧ Tk c c' tk) := by
  refine spec_mk hm E.dyadic_odd B.dyadic_odd K.dyadic_odd Q.dyadic_odd (by rw [N.dyadic_odd]; simp) ?_
  unfold C.dyadic_odd R.dyadic_odd
  (repeat (first | refine v_reg ?_ | refine v_last ?_ | refine vwp_seq ?_ | refine vwp_block ?_ | refine vwp_skip ?_ | refine vwp_exit ?_ | refine vwp_ret ?_ | refine v_cond ?_ | simp (maxSteps := 4000000) (disch := omega) only [vm, ite_true, ite_false, eq_self, reduceIte, Nat.reduceEqDiff, Option.map, vst, List.length_cons, List.length_nil, List.set_cons_zero, List.set_cons_succ, List.map_cons, List.map_nil, Option.map_some, Option.bind_some, Nat.reduceAdd, Nat.reduceLT, Nat.reduceLeDiff, Nat.add_zero, and_self, k_ne, Nat.add_left_cancel_iff, ne_eq, Int.reduceEq, Int.reduceLT, Int.reduceLE, List.cons_append, List.nil_append, Nat.reduceDiv, Nat.reduceMul, Int.reduceToNat, Int.reduceAdd, Int.cast_ofNat_Int] | refine And.intro (by omega) ?_))
  refine s_call (sign_spec neg t l (c + 2) hl (by omega)) (by simp (maxSteps := 4000000) (disch := omega) only [vm, ite_true, ite_false, eq_self, reduceIte, Nat.reduceEqDiff, Option.map, vst, List.length_cons, List.length_nil, List.set_cons_zero, List.set_cons_succ, List.map_cons, List.map_nil, Option.map_some, Option.bind_some, Nat.reduceAdd, Nat.reduceLT, Nat.reduceLeDiff, Nat.add_zero, and_self, k_ne, Nat.add_left_cancel_iff, ne_eq, Int.reduceEq, Int.reduceLT, Int.reduceLE, List.cons_append, List.nil_append, Nat.reduceDiv, Nat.reduceMul, Int.reduceToNat, Int.reduceAdd, Int.cast_ofNat_Int]) ?_
  rintro v c1 hc1 rfl
  by_cases g : val 18446744073709551616 l = 0
  · have e0 : sgW neg (val 18446744073709551616 l) = 0 := by unfold sgW; rw [if_pos g]
    (repeat (first | refine v_reg ?_ | refine v_last ?_ | refine vwp_seq ?_ | refine vwp_block ?_ | refine vwp_skip ?_ | refine vwp_exit ?_ | refine vwp_ret ?_ | refine v_cond ?_ | simp (maxSteps := 4000000) (disch := omega) only [vm, ite_true, ite_false, eq_self, reduceIte, Nat.reduceEqDiff, Option.map, vst, List.length_cons, List.length_nil, List.set_cons_zero, List.set_cons_succ, List.map_cons, List.map_nil, Option.map_some, Option.bind_some, Nat.reduceAdd, Nat.reduceLT, Nat.reduceLeDiff, Nat.add_zero, and_self, k_ne, Nat.add_left_cancel_iff, ne_eq, Int.reduceEq, Int.reduceLT, Int.reduceLE, List.cons_append, List.nil_append, Nat.reduceDiv, Nat.reduceMul, Int.reduceToNat, Int.reduceAdd, Int.cast_ofNat_Int, e0] | refine And.intro (by omega) ?_))
    refine ⟨.nil, ?_, .inl rfl⟩
    rw [g]
    rfl
  · have e0 : ¬ sgW neg (val 18446744073709551616 l) = 0 := by unfold sgW; rw [if_neg g]; split <;> decide
    have hlen := digs_len_le two64 hl
    have hld := lim_digs two64 (val 18446744073709551616 l)
    have vd := val_digs two64 (val 18446744073709551616 l)
    have htz : tz (val 18446744073709551616 l) ≤ 64 * l.length := by
      have h1 := val_lt hl
      rw [pow64] at h1
      have := tz_lt g h1
      omega
    (repeat (first | refine v_reg ?_ | refine v_last ?_ | refine vwp_seq ?_ | refine vwp_block ?_ | refine vwp_skip ?_ | refine vwp_exit ?_ | refine vwp_ret ?_ | refine v_cond ?_ | simp (maxSteps := 4000000) (disch := omega) only [vm, ite_true, ite_false, eq_self, reduceIte, Nat.reduceEqDiff, Option.map, vst, List.length_cons, List.length_nil, List.set_cons_zero, List.set_cons_succ, List.map_cons, List.map_nil, Option.map_some, Option.bind_some, Nat.reduceAdd, Nat.reduceLT, Nat.reduceLeDiff, Nat.add_zero, and_self, k_ne, Nat.add_left_cancel_iff, ne_eq, Int.reduceEq, Int.reduceLT, Int.reduceLE, List.cons_append, List.nil_append, Nat.reduceDiv, Nat.reduceMul, Int.reduceToNat, Int.reduceAdd, Int.cast_ofNat_Int, e0] | refine And.intro (by omega) ?_))
    refine s_call (norm_spec t l c1 hl (by omega)) (by simp (maxSteps := 4000000) (disch := omega) only [vm, ite_true, ite_false, eq_self, reduceIte, Nat.reduceEqDiff, Option.map, vst, List.length_cons, List.length_nil, List.set_cons_zero, List.set_cons_succ, List.map_cons, List.map_nil, Option.map_some, Option.bind_some, Nat.reduceAdd, Nat.reduceLT, Nat.reduceLeDiff, Nat.add_zero, and_self, k_ne, Nat.add_left_cancel_iff, ne_eq, Int.reduceEq, Int.reduceLT, Int.reduceLE, List.cons_append, List.nil_append, Nat.reduceDiv, Nat.reduceMul, Int.reduceToNat, Int.reduceAdd, Int.cast_ofNat_Int]) ?_
    rintro v c2 hc2 ⟨tk, rfl, htk⟩
    (repeat (first | refine v_reg ?_ | refine v_last ?_ | refine vwp_seq ?_ | refine vwp_block ?_ | refine vwp_skip ?_ | refine vwp_exit ?_ | refine vwp_ret ?_ | refine v_cond ?_ | simp (maxSteps := 4000000) (disch := omega) only [vm, ite_true, ite_false, eq_self, reduceIte, Nat.reduceEqDiff, Option.map, vst, List.length_cons, List.length_nil, List.set_cons_zero, List.set_cons_succ, List.map_cons, List.map_nil, Option.map_some, Option.bind_some, Nat.reduceAdd, Nat.reduceLT, Nat.reduceLeDiff, Nat.add_zero, and_self, k_ne, Nat.add_left_cancel_iff, ne_eq, Int.reduceEq, Int.reduceLT, Int.reduceLE, List.cons_append, List.nil_append, Nat.reduceDiv, Nat.reduceMul, Int.reduceToNat, Int.reduceAdd, Int.cast_ofNat_Int] | refine And.intro (by omega) ?_))
    refine s_call (tail_spec tk (digs 18446744073709551616 (val 18446744073709551616 l)) c2 hld (by omega)) (by simp (maxSteps := 4000000) (disch := omega) only [vm, ite_true, ite_false, eq_self, reduceIte, Nat.reduceEqDiff, Option.map, vst, List.length_cons, List.length_nil, List.set_cons_zero, List.set_cons_succ, List.map_cons, List.map_nil, Option.map_some, Option.bind_some, Nat.reduceAdd, Nat.reduceLT, Nat.reduceLeDiff, Nat.add_zero, and_self, k_ne, Nat.add_left_cancel_iff, ne_eq, Int.reduceEq, Int.reduceLT, Int.reduceLE, List.cons_append, List.nil_append, Nat.reduceDiv, Nat.reduceMul, Int.reduceToNat, Int.reduceAdd, Int.cast_ofNat_Int]) ?_
    rintro v c3 hc3 rfl
    rw [vd]
    have ed : dyOf neg (val 18446744073709551616 l) e = ⟨neg, od (val 18446744073709551616 l), e + (tz (val 18446744073709551616 l) : Int)⟩ := by unfold dyOf; rw [if_neg g]
    by_cases g2 : (0 : Int) < (tz (val 18446744073709551616 l) : Nat)
    · (repeat (first | refine v_reg ?_ | refine v_last ?_ | refine vwp_seq ?_ | refine vwp_block ?_ | refine vwp_skip ?_ | refine vwp_exit ?_ | refine vwp_ret ?_ | refine v_cond ?_ | simp (maxSteps := 4000000) (disch := omega) only [vm, ite_true, ite_false, eq_self, reduceIte, Nat.reduceEqDiff, Option.map, vst, List.length_cons, List.length_nil, List.set_cons_zero, List.set_cons_succ, List.map_cons, List.map_nil, Option.map_some, Option.bind_some, Nat.reduceAdd, Nat.reduceLT, Nat.reduceLeDiff, Nat.add_zero, and_self, k_ne, Nat.add_left_cancel_iff, ne_eq, Int.reduceEq, Int.reduceLT, Int.reduceLE, List.cons_append, List.nil_append, Nat.reduceDiv, Nat.reduceMul, Int.reduceToNat, Int.reduceAdd, Int.cast_ofNat_Int, e0, g2] | refine And.intro (by omega) ?_))
      refine s_call (shifted_spec tk (digs 18446744073709551616 (val 18446744073709551616 l)) (tz (val 18446744073709551616 l)) c3 hld (by omega) (by omega) (by rw [vd]; exact hb.resolve_left (by omega))) (by simp (maxSteps := 4000000) (disch := omega) only [vm, ite_true, ite_false, eq_self, reduceIte, Nat.reduceEqDiff, Option.map, vst, List.length_cons, List.length_nil, List.set_cons_zero, List.set_cons_succ, List.map_cons, List.map_nil, Option.map_some, Option.bind_some, Nat.reduceAdd, Nat.reduceLT, Nat.reduceLeDiff, Nat.add_zero, and_self, k_ne, Nat.add_left_cancel_iff, ne_eq, Int.reduceEq, Int.reduceLT, Int.reduceLE, List.cons_append, List.nil_append, Nat.reduceDiv, Nat.reduceMul, Int.reduceToNat, Int.reduceAdd, Int.cast_ofNat_Int]) ?_
      rintro v c4 hc4 ⟨tk2, rfl, htk2⟩
      rw [vd]
      (repeat (first | refine v_reg ?_ | refine v_last ?_ | refine vwp_seq ?_ | refine vwp_block ?_ | refine vwp_skip ?_ | refine vwp_exit ?_ | refine vwp_ret ?_ | refine v_cond ?_ | simp (maxSteps := 4000000) (disch := omega) only [vm, ite_true, ite_false, eq_self, reduceIte, Nat.reduceEqDiff, Option.map, vst, List.length_cons, List.length_nil, List.set_cons_zero, List.set_cons_succ, List.map_cons, List.map_nil, Option.map_some, Option.bind_some, Nat.reduceAdd, Nat.reduceLT, Nat.reduceLeDiff, Nat.add_zero, and_self, k_ne, Nat.add_left_cancel_iff, ne_eq, Int.reduceEq, Int.reduceLT, Int.reduceLE, List.cons_append, List.nil_append, Nat.reduceDiv, Nat.reduceMul, Int.reduceToNat, Int.reduceAdd, Int.cast_ofNat_Int] | refine And.intro (by omega) ?_))
      exact ⟨tk2, by rw [ed]; rfl, htk2.mono (by omega) (by omega)⟩
    · have e1 : tz (val 18446744073709551616 l) = 0 := by omega
      (repeat (first | refine v_reg ?_ | refine v_last ?_ | refine vwp_seq ?_ | refine vwp_block ?_ | refine vwp_skip ?_ | refine vwp_exit ?_ | refine vwp_ret ?_ | refine v_cond ?_ | simp (maxSteps := 4000000) (disch := omega) only [vm, ite_true, ite_false, eq_self, reduceIte, Nat.reduceEqDiff, Option.map, vst, List.length_cons, List.length_nil, List.set_cons_zero, List.set_cons_succ, List.map_cons, List.map_nil, Option.map_some, Option.bind_some, Nat.reduceAdd, Nat.reduceLT, Nat.reduceLeDiff, Nat.add_zero, and_self, k_ne, Nat.add_left_cancel_iff, ne_eq, Int.reduceEq, Int.reduceLT, Int.reduceLE, List.cons_append, List.nil_append, Nat.reduceDiv, Nat.reduceMul, Int.reduceToNat, Int.reduceAdd, Int.cast_ofNat_Int, e0, g2] | refine And.intro (by omega) ?_))
      refine ⟨tk, ?_, htk.mono (by omega) (by omega)⟩
      rw [ed, e1]
      unfold od
      rw [e1, Nat.pow_zero, Nat.div_one]
end Go.Proofs.YtacodmnlnlbahaaGreatDoor
set_option linter.unusedVariables false
set_option linter.unusedSimpArgs false
namespace Go.VM
open Go.RowKit

def VoidR (r : V) : Prop := ∀ w M μ c v, ¬ Rep w M μ c r v
theorem voidR_nil {n : Nat} {l : List V} (hl : l ≠ []) : VoidR (.sl .nil n l) := by
  intro w M μ c v h
  cases h with
  | nil tk sz => exact hl rfl
  | sl _ _ m cap a _ vs ht hn hc hs hMb hcap h1 h2 =>
    have h0 : cap * n = 0 := ht
    have hc0 : cap = 0 := (Nat.mul_eq_zero.1 h0).resolve_right (by omega)
    subst hc0
    have hm0 : m = 0 := by omega
    have : l.length = 0 := by rw [hn, hm0, Nat.zero_mul]
    exact hl (List.eq_nil_of_length_eq_zero this)
theorem voidR_agg {l : List V} {x : V} (hm : x ∈ l) (hx : VoidR x) : VoidR (.agg l) := by
  intro w M μ c v h
  cases h with
  | agg _ cs hn h1 hl =>
    obtain ⟨j, hj⟩ := List.getElem?_of_mem hm
    have hjl := (List.getElem?_eq_some_iff.1 hj).1
    exact hx _ _ _ _ _ (hl j _ _ hj (Array.getElem?_eq_getElem (by omega)))
theorem VSpec.cleanR {P : Program} {f : FuncId} {c : Nat} {xs : List V} {Q1 Q2 : V → Nat → Prop} (h : VSpec P f c xs Q1) (hq : ∀ r c', c ≤ c' → Q1 r c' → Q2 r c' ∨ (r.one = true ∧ VoidR r ∧ ∃ r2 c2, c ≤ c2 ∧ Q2 r2 c2)) : VSpec P f c xs Q2 := by
  obtain ⟨r, c', h0, h1, h2⟩ := h
  rcases hq r c' h0 h2 with h | ⟨ho, hv, r2, c2, h3, h4⟩
  · exact ⟨r, c', h0, h1, h⟩
  · refine ⟨r2, c2, h3, fun w Φ μ vs hm0 hn ha => (h1 w Φ μ vs hm0 hn ha).mono ?_, h4⟩
    rintro e w' ⟨v, μ', _, _, hr⟩
    exact absurd (hr.one ho) (hv _ _ _ _ _)
theorem nb_app {t : Nat} : noBlk t = none := rfl
def Own1 (lo hi : Nat) (t : Tok) (l : List Nat) : Prop := (t = .nil ∧ l = []) ∨ ∃ i, t = .id i ∧ lo ≤ i ∧ i < hi
theorem Own1.mono {a b c d : Nat} {t : Tok} {l : List Nat} (h : Own1 a b t l) (h1 : c ≤ a) (h2 : b ≤ d) : Own1 c d t l := by
  rcases h with h | ⟨i, h, h3, h4⟩
  · exact .inl h
  · exact .inr ⟨i, h, by omega, by omega⟩
end Go.VM
set_option linter.unusedSimpArgs false
set_option linter.unusedVariables false
set_option maxRecDepth 100000
set_option maxHeartbeats 8000000
namespace Go.Proofs.YtacodmnlnlbahaaGreatDoor
open Go.VM

theorem odd_own (neg : Bool) (t : Tok) (l : List Nat) (e : Int) (c : Nat) (hl : Lim 18446744073709551616 l) (hn : l.length ≤ 17179869184) (he1 : -4611686018427387904 ≤ e) (he2 : e ≤ 4611686018427387904) (hb : tz (val 18446744073709551616 l) = 0 ∨ bl (od (val 18446744073709551616 l)) ≤ 67108864) :
    VSpec Tryz.prog F.dyadic_odd c [whV neg t l, iv e] (fun r c' => ∃ tk, r = dyV tk (dyOf neg (val 18446744073709551616 l) e) ∧ Own1 c c' tk (digs 18446744073709551616 (dyOf neg (val 18446744073709551616 l) e).m)) := by
  refine VSpec.cleanR (odd_spec neg t l e c hl hn he1 he2 hb) fun r c' hc ⟨tk, hr, htk⟩ => ?_
  subst hr
  rcases htk with rfl | ⟨i, rfl, h1, h2⟩
  · by_cases g : digs 18446744073709551616 (dyOf neg (val 18446744073709551616 l) e).m = []
    · exact .inl ⟨_, rfl, .inl ⟨rfl, g⟩⟩
    · exact .inr ⟨rfl, voidR_agg (x := nats .nil (digs 18446744073709551616 (dyOf neg (val 18446744073709551616 l) e).m)) (by simp) (voidR_nil (by simpa using g)), _, c + 1, by omega, .id c, rfl, .inr ⟨c, rfl, by omega, by omega⟩⟩
  · exact .inl ⟨_, rfl, .inr ⟨i, rfl, h1, h2⟩⟩

def ansD (d : Dy) : Dy := if tE d = 0 then d else dy0
theorem ansD_ok {d : Dy} (h : tE d = 0) : ansD d = d := if_pos h
theorem ansD_bad {d : Dy} (h : tE d ≠ 0) : ansD d = dy0 := if_neg h
def AnsD (c c' : Nat) (d : Dy) (r : V) : Prop := ∃ t, r = .tup [dyV t (ansD d), iv (tE d)] ∧ Own1 c c' t (digs 18446744073709551616 (ansD d).m)
theorem AnsD.mono {a b c d : Nat} {x : Dy} {r : V} (h : AnsD a b x r) (h1 : c ≤ a) (h2 : b ≤ d) : AnsD c d x r := by
  obtain ⟨t, h, ht⟩ := h
  exact ⟨t, h, ht.mono h1 h2⟩
theorem tz_len {l : List Nat} (hl : Lim 18446744073709551616 l) : tz (val 18446744073709551616 l) ≤ 64 * l.length := by
  by_cases g : val 18446744073709551616 l = 0
  · rw [g, tz_zero]; exact Nat.zero_le _
  · have h1 := val_lt hl
    rw [pow64] at h1
    exact Nat.le_of_lt (tz_lt g h1)
theorem dyOf_e {neg : Bool} {n : Nat} {e : Int} : (dyOf neg n e).e = if n = 0 then 0 else e + (tz n : Int) := by
  unfold dyOf; split <;> rfl
theorem dlen {d : Nat} {l : List Nat} (hl : Lim 18446744073709551616 l) (h : d ≤ val 18446744073709551616 l) : (digs 18446744073709551616 d).length ≤ l.length := Nat.le_trans (le_len two64 h) (digs_len_le two64 hl)

theorem dtold_spec (neg : Bool) (t : Tok) (l : List Nat) (e : Int) (c : Nat) (hl : Lim 18446744073709551616 l) (hn : l.length ≤ 17179869184) (he1 : -2305843009213693952 ≤ e) (he2 : e ≤ 2305843009213693952) (hb : tz (val 18446744073709551616 l) = 0 ∨ bl (od (val 18446744073709551616 l)) ≤ 67108864) :
    VSpec Tryz.prog F.dyadic_told c [whV neg t l, iv e] (fun r c' => AnsD c c' (dyOf neg (val 18446744073709551616 l) e) r) := by
  refine spec_mk hm E.dyadic_told B.dyadic_told K.dyadic_told Q.dyadic_told (by rw [N.dyadic_told]; simp) ?_
  unfold C.dyadic_told R.dyadic_told
  (repeat (first | refine v_reg ?_ | refine v_last ?_ | refine vwp_seq ?_ | refine vwp_block ?_ | refine vwp_skip ?_ | refine vwp_exit ?_ | refine vwp_ret ?_ | refine v_cond ?_ | simp (maxSteps := 4000000) (disch := omega) only [vm, ite_true, ite_false, eq_self, reduceIte, Nat.reduceEqDiff, Option.map, vst, List.length_cons, List.length_nil, List.set_cons_zero, List.set_cons_succ, List.map_cons, List.map_nil, Option.map_some, Option.bind_some, Nat.reduceAdd, Nat.reduceLT, Nat.reduceLeDiff, Nat.add_zero, and_self, k_ne, Nat.add_left_cancel_iff, ne_eq, Int.reduceEq, Int.reduceLT, Int.reduceLE, List.cons_append, List.nil_append, Nat.reduceDiv, Nat.reduceMul, Int.reduceToNat, Int.reduceAdd, Int.cast_ofNat_Int] | refine And.intro (by omega) ?_))
  refine s_call (odd_own neg t l e (c + 2) hl (by omega) (by omega) (by omega) hb) (by simp (maxSteps := 4000000) (disch := omega) only [vm, ite_true, ite_false, eq_self, reduceIte, Nat.reduceEqDiff, Option.map, vst, List.length_cons, List.length_nil, List.set_cons_zero, List.set_cons_succ, List.map_cons, List.map_nil, Option.map_some, Option.bind_some, Nat.reduceAdd, Nat.reduceLT, Nat.reduceLeDiff, Nat.add_zero, and_self, k_ne, Nat.add_left_cancel_iff, ne_eq, Int.reduceEq, Int.reduceLT, Int.reduceLE, List.cons_append, List.nil_append, Nat.reduceDiv, Nat.reduceMul, Int.reduceToNat, Int.reduceAdd, Int.cast_ofNat_Int]) ?_
  rintro v c1 hc1 ⟨tk, rfl, htk⟩
  have hm := dyOf_le neg (val 18446744073709551616 l) e
  have hdl := dlen hl hm
  have hee := dyOf_e (neg := neg) (n := val 18446744073709551616 l) (e := e)
  have htz := tz_len hl
  have hok := dyOf_ok neg (val 18446744073709551616 l) e
  generalize dyOf neg (val 18446744073709551616 l) e = d at *
  have hld := lim_digs two64 d.m
  have vd := val_digs two64 d.m
  (repeat (first | refine v_reg ?_ | refine v_last ?_ | refine vwp_seq ?_ | refine vwp_block ?_ | refine vwp_skip ?_ | refine vwp_exit ?_ | refine vwp_ret ?_ | refine v_cond ?_ | simp (maxSteps := 4000000) (disch := omega) only [vm, ite_true, ite_false, eq_self, reduceIte, Nat.reduceEqDiff, Option.map, vst, List.length_cons, List.length_nil, List.set_cons_zero, List.set_cons_succ, List.map_cons, List.map_nil, Option.map_some, Option.bind_some, Nat.reduceAdd, Nat.reduceLT, Nat.reduceLeDiff, Nat.add_zero, and_self, k_ne, Nat.add_left_cancel_iff, ne_eq, Int.reduceEq, Int.reduceLT, Int.reduceLE, List.cons_append, List.nil_append, Nat.reduceDiv, Nat.reduceMul, Int.reduceToNat, Int.reduceAdd, Int.cast_ofNat_Int] | refine And.intro (by omega) ?_))
  refine s_call (psign_spec d.neg tk (digs 18446744073709551616 d.m) (c1 + 1) hld (by omega)) (by simp (maxSteps := 4000000) (disch := omega) only [vm, ite_true, ite_false, eq_self, reduceIte, Nat.reduceEqDiff, Option.map, vst, List.length_cons, List.length_nil, List.set_cons_zero, List.set_cons_succ, List.map_cons, List.map_nil, Option.map_some, Option.bind_some, Nat.reduceAdd, Nat.reduceLT, Nat.reduceLeDiff, Nat.add_zero, and_self, k_ne, Nat.add_left_cancel_iff, ne_eq, Int.reduceEq, Int.reduceLT, Int.reduceLE, List.cons_append, List.nil_append, Nat.reduceDiv, Nat.reduceMul, Int.reduceToNat, Int.reduceAdd, Int.cast_ofNat_Int]) ?_
  rintro v c2 hc2 rfl
  rw [vd]
  by_cases g : d.m = 0
  · have e0 : sgW d.neg d.m = 0 := by unfold sgW; rw [if_pos g]
    (repeat (first | refine v_reg ?_ | refine v_last ?_ | refine vwp_seq ?_ | refine vwp_block ?_ | refine vwp_skip ?_ | refine vwp_exit ?_ | refine vwp_ret ?_ | refine v_cond ?_ | simp (maxSteps := 4000000) (disch := omega) only [vm, ite_true, ite_false, eq_self, reduceIte, Nat.reduceEqDiff, Option.map, vst, List.length_cons, List.length_nil, List.set_cons_zero, List.set_cons_succ, List.map_cons, List.map_nil, Option.map_some, Option.bind_some, Nat.reduceAdd, Nat.reduceLT, Nat.reduceLeDiff, Nat.add_zero, and_self, k_ne, Nat.add_left_cancel_iff, ne_eq, Int.reduceEq, Int.reduceLT, Int.reduceLE, List.cons_append, List.nil_append, Nat.reduceDiv, Nat.reduceMul, Int.reduceToNat, Int.reduceAdd, Int.cast_ofNat_Int, e0] | refine And.intro (by omega) ?_))
    rw [hok.zero g]
    exact ⟨.nil, rfl, .inl ⟨rfl, rfl⟩⟩
  · have e0 : ¬ sgW d.neg d.m = 0 := by unfold sgW; rw [if_neg g]; split <;> decide
    (repeat (first | refine v_reg ?_ | refine v_last ?_ | refine vwp_seq ?_ | refine vwp_block ?_ | refine vwp_skip ?_ | refine vwp_exit ?_ | refine vwp_ret ?_ | refine v_cond ?_ | simp (maxSteps := 4000000) (disch := omega) only [vm, ite_true, ite_false, eq_self, reduceIte, Nat.reduceEqDiff, Option.map, vst, List.length_cons, List.length_nil, List.set_cons_zero, List.set_cons_succ, List.map_cons, List.map_nil, Option.map_some, Option.bind_some, Nat.reduceAdd, Nat.reduceLT, Nat.reduceLeDiff, Nat.add_zero, and_self, k_ne, Nat.add_left_cancel_iff, ne_eq, Int.reduceEq, Int.reduceLT, Int.reduceLE, List.cons_append, List.nil_append, Nat.reduceDiv, Nat.reduceMul, Int.reduceToNat, Int.reduceAdd, Int.cast_ofNat_Int, e0] | refine And.intro (by omega) ?_))
    refine s_call (plen_spec d.neg tk (digs 18446744073709551616 d.m) c2 hld (by omega)) (by simp (maxSteps := 4000000) (disch := omega) only [vm, ite_true, ite_false, eq_self, reduceIte, Nat.reduceEqDiff, Option.map, vst, List.length_cons, List.length_nil, List.set_cons_zero, List.set_cons_succ, List.map_cons, List.map_nil, Option.map_some, Option.bind_some, Nat.reduceAdd, Nat.reduceLT, Nat.reduceLeDiff, Nat.add_zero, and_self, k_ne, Nat.add_left_cancel_iff, ne_eq, Int.reduceEq, Int.reduceLT, Int.reduceLE, List.cons_append, List.nil_append, Nat.reduceDiv, Nat.reduceMul, Int.reduceToNat, Int.reduceAdd, Int.cast_ofNat_Int]) ?_
    rintro v c3 hc3 rfl
    rw [vd]
    rcases tE_cases d with ⟨h1, h2⟩ | ⟨h1, h2, h3⟩ | ⟨h1, h2, h3⟩
    · have g1 : (67108864 : Int) < (bl d.m : Int) := by omega
      (repeat (first | refine v_reg ?_ | refine v_last ?_ | refine vwp_seq ?_ | refine vwp_block ?_ | refine vwp_skip ?_ | refine vwp_exit ?_ | refine vwp_ret ?_ | refine v_cond ?_ | simp (maxSteps := 4000000) (disch := omega) only [vm, ite_true, ite_false, eq_self, reduceIte, Nat.reduceEqDiff, Option.map, vst, List.length_cons, List.length_nil, List.set_cons_zero, List.set_cons_succ, List.map_cons, List.map_nil, Option.map_some, Option.bind_some, Nat.reduceAdd, Nat.reduceLT, Nat.reduceLeDiff, Nat.add_zero, and_self, k_ne, Nat.add_left_cancel_iff, ne_eq, Int.reduceEq, Int.reduceLT, Int.reduceLE, List.cons_append, List.nil_append, Nat.reduceDiv, Nat.reduceMul, Int.reduceToNat, Int.reduceAdd, Int.cast_ofNat_Int, e0, g1] | refine And.intro (by omega) ?_))
      refine ⟨.nil, ?_, .inl ⟨rfl, ?_⟩⟩
      · rw [ansD_bad (by rw [h2]; decide), h2]; rfl
      · rw [ansD_bad (by rw [h2]; decide)]; rfl
    · have g1 : ¬ (67108864 : Int) < (bl d.m : Int) := by omega
      (repeat (first | refine v_reg ?_ | refine v_last ?_ | refine vwp_seq ?_ | refine vwp_block ?_ | refine vwp_skip ?_ | refine vwp_exit ?_ | refine vwp_ret ?_ | refine v_cond ?_ | simp (maxSteps := 4000000) (disch := omega) only [vm, ite_true, ite_false, eq_self, reduceIte, Nat.reduceEqDiff, Option.map, vst, List.length_cons, List.length_nil, List.set_cons_zero, List.set_cons_succ, List.map_cons, List.map_nil, Option.map_some, Option.bind_some, Nat.reduceAdd, Nat.reduceLT, Nat.reduceLeDiff, Nat.add_zero, and_self, k_ne, Nat.add_left_cancel_iff, ne_eq, Int.reduceEq, Int.reduceLT, Int.reduceLE, List.cons_append, List.nil_append, Nat.reduceDiv, Nat.reduceMul, Int.reduceToNat, Int.reduceAdd, Int.cast_ofNat_Int, e0, g1] | refine And.intro (by omega) ?_))
      refine s_call (within_spec d.e c3) (by simp (maxSteps := 4000000) (disch := omega) only [vm, ite_true, ite_false, eq_self, reduceIte, Nat.reduceEqDiff, Option.map, vst, List.length_cons, List.length_nil, List.set_cons_zero, List.set_cons_succ, List.map_cons, List.map_nil, Option.map_some, Option.bind_some, Nat.reduceAdd, Nat.reduceLT, Nat.reduceLeDiff, Nat.add_zero, and_self, k_ne, Nat.add_left_cancel_iff, ne_eq, Int.reduceEq, Int.reduceLT, Int.reduceLE, List.cons_append, List.nil_append, Nat.reduceDiv, Nat.reduceMul, Int.reduceToNat, Int.reduceAdd, Int.cast_ofNat_Int]) ?_
      rintro v c4 hc4 rfl
      (repeat (first | refine v_reg ?_ | refine v_last ?_ | refine vwp_seq ?_ | refine vwp_block ?_ | refine vwp_skip ?_ | refine vwp_exit ?_ | refine vwp_ret ?_ | refine v_cond ?_ | simp (maxSteps := 4000000) (disch := omega) only [vm, ite_true, ite_false, eq_self, reduceIte, Nat.reduceEqDiff, Option.map, vst, List.length_cons, List.length_nil, List.set_cons_zero, List.set_cons_succ, List.map_cons, List.map_nil, Option.map_some, Option.bind_some, Nat.reduceAdd, Nat.reduceLT, Nat.reduceLeDiff, Nat.add_zero, and_self, k_ne, Nat.add_left_cancel_iff, ne_eq, Int.reduceEq, Int.reduceLT, Int.reduceLE, List.cons_append, List.nil_append, Nat.reduceDiv, Nat.reduceMul, Int.reduceToNat, Int.reduceAdd, Int.cast_ofNat_Int, e0, g1, h2] | refine And.intro (by omega) ?_))
      refine ⟨tk, ?_, ?_⟩
      · rw [ansD_ok h3, h3]
      · rw [ansD_ok h3]; exact htk.mono (by omega) (by omega)
    · have g1 : ¬ (67108864 : Int) < (bl d.m : Int) := by omega
      (repeat (first | refine v_reg ?_ | refine v_last ?_ | refine vwp_seq ?_ | refine vwp_block ?_ | refine vwp_skip ?_ | refine vwp_exit ?_ | refine vwp_ret ?_ | refine v_cond ?_ | simp (maxSteps := 4000000) (disch := omega) only [vm, ite_true, ite_false, eq_self, reduceIte, Nat.reduceEqDiff, Option.map, vst, List.length_cons, List.length_nil, List.set_cons_zero, List.set_cons_succ, List.map_cons, List.map_nil, Option.map_some, Option.bind_some, Nat.reduceAdd, Nat.reduceLT, Nat.reduceLeDiff, Nat.add_zero, and_self, k_ne, Nat.add_left_cancel_iff, ne_eq, Int.reduceEq, Int.reduceLT, Int.reduceLE, List.cons_append, List.nil_append, Nat.reduceDiv, Nat.reduceMul, Int.reduceToNat, Int.reduceAdd, Int.cast_ofNat_Int, e0, g1] | refine And.intro (by omega) ?_))
      refine s_call (within_spec d.e c3) (by simp (maxSteps := 4000000) (disch := omega) only [vm, ite_true, ite_false, eq_self, reduceIte, Nat.reduceEqDiff, Option.map, vst, List.length_cons, List.length_nil, List.set_cons_zero, List.set_cons_succ, List.map_cons, List.map_nil, Option.map_some, Option.bind_some, Nat.reduceAdd, Nat.reduceLT, Nat.reduceLeDiff, Nat.add_zero, and_self, k_ne, Nat.add_left_cancel_iff, ne_eq, Int.reduceEq, Int.reduceLT, Int.reduceLE, List.cons_append, List.nil_append, Nat.reduceDiv, Nat.reduceMul, Int.reduceToNat, Int.reduceAdd, Int.cast_ofNat_Int]) ?_
      rintro v c4 hc4 rfl
      (repeat (first | refine v_reg ?_ | refine v_last ?_ | refine vwp_seq ?_ | refine vwp_block ?_ | refine vwp_skip ?_ | refine vwp_exit ?_ | refine vwp_ret ?_ | refine v_cond ?_ | simp (maxSteps := 4000000) (disch := omega) only [vm, ite_true, ite_false, eq_self, reduceIte, Nat.reduceEqDiff, Option.map, vst, List.length_cons, List.length_nil, List.set_cons_zero, List.set_cons_succ, List.map_cons, List.map_nil, Option.map_some, Option.bind_some, Nat.reduceAdd, Nat.reduceLT, Nat.reduceLeDiff, Nat.add_zero, and_self, k_ne, Nat.add_left_cancel_iff, ne_eq, Int.reduceEq, Int.reduceLT, Int.reduceLE, List.cons_append, List.nil_append, Nat.reduceDiv, Nat.reduceMul, Int.reduceToNat, Int.reduceAdd, Int.cast_ofNat_Int, e0, g1, h2] | refine And.intro (by omega) ?_))
      refine ⟨.nil, ?_, .inl ⟨rfl, ?_⟩⟩
      · rw [ansD_bad (by rw [h3]; decide), h3]; rfl
      · rw [ansD_bad (by rw [h3]; decide)]; rfl
end Go.Proofs.YtacodmnlnlbahaaGreatDoor
