/- The claim of RootSteps (Newton's next, from anywhere) of the program holds: whatever list and numbers come in (of bulk at most 1048576 in all, as the statement says), the law answers true, and memory that was there is as it was. -/
import Derived.Test.YtladcfeibpddeabStpM5
set_option linter.unusedSimpArgs false
set_option linter.unusedVariables false
set_option maxRecDepth 100000
set_option maxHeartbeats 8000000
namespace Go.Proofs.Ytladcfeibpddeab
open Go.VM

/-! ### rows of rows -/
theorem rows_inj : ∀ {ds : List (Option (Nat × Nat))}, (rowIds ds).Nodup → ∀ {i j t n m : Nat}, ds[i]? = some (some (t, n)) → ds[j]? = some (some (t, m)) → i = j
  | [], _, i, j, t, n, m, h, _ => by simp at h
  | d :: ds, hn, i, j, t, n, m, h, h' => by
    have mem : ∀ {k q : Nat}, ds[k]? = some (some (t, q)) → t ∈ rowIds ds := fun h => List.mem_filterMap.2 ⟨_, List.mem_of_getElem? h, rfl⟩
    have tl : (rowIds ds).Nodup := by
      cases d with
      | none => exact hn
      | some q => exact (List.nodup_cons.1 hn).2
    have hd : ∀ q, d = some (t, q) → t ∉ rowIds ds := by
      rintro q rfl
      exact (List.nodup_cons.1 hn).1
    cases i with
    | zero =>
      cases j with
      | zero => rfl
      | succ j =>
        simp only [List.getElem?_cons_zero, Option.some.injEq] at h
        simp only [List.getElem?_cons_succ] at h'
        exact absurd (mem h') (hd _ h)
    | succ i =>
      cases j with
      | zero =>
        simp only [List.getElem?_cons_zero, Option.some.injEq] at h'
        simp only [List.getElem?_cons_succ] at h
        exact absurd (mem h) (hd _ h')
      | succ j =>
        simp only [List.getElem?_cons_succ] at h h'
        exact congrArg Nat.succ (rows_inj tl h h')

/-- the list of rows, and the rows, in memory -/
structure RowS (σ : Nat → Option Blk) (tL : Nat) (ds : List (Option (Nat × Nat))) : Prop where
  hd : σ tL = some ⟨ds.map rowOf, true⟩
  row : ∀ (i t n : Nat), ds[i]? = some (some (t, n)) → t ≠ tL ∧ n ≤ 4398046511200 ∧ ∃ cells, σ t = some ⟨cells, true⟩ ∧ n ≤ cells.length
  inj : ∀ (i j t n m : Nat), ds[i]? = some (some (t, n)) → ds[j]? = some (some (t, m)) → i = j
/-- the row is written: at k the number f k -/
def Holds (σ : Nat → Option Blk) (d : Option (Nat × Nat)) (f : Nat → Nat) : Prop := ∀ t n, d = some (t, n) → ∃ cells, σ t = some ⟨cells, true⟩ ∧ ∀ k, k < n → cells[k]? = some (nv (f k))
theorem Holds.none {σ : Nat → Option Blk} {f : Nat → Nat} : Holds σ none f := fun t n h => by cases h
theorem Holds.congr {σ : Nat → Option Blk} {d : Option (Nat × Nat)} {f g : Nat → Nat} (h : Holds σ d f) (e : ∀ t n, d = some (t, n) → ∀ k, k < n → f k = g k) : Holds σ d g := fun t n hd => by
  obtain ⟨cells, h1, h2⟩ := h t n hd
  exact ⟨cells, h1, fun k hk => by rw [h2 k hk, e t n hd k hk]⟩
theorem Holds.put {σ : Nat → Option Blk} {d : Option (Nat × Nat)} {f : Nat → Nat} (h : Holds σ d f) {t : Nat} {b : Option Blk} (ht : ∀ n, d ≠ some (t, n)) : Holds (supd σ t b) d f := fun u n hd => by
  obtain ⟨cells, h1, h2⟩ := h u n hd
  refine ⟨cells, ?_, h2⟩
  rw [supd_app, if_neg (fun e => ht n (by rw [← e]; exact hd))]
  exact h1
theorem RowS.put {σ : Nat → Option Blk} {tL : Nat} {ds : List (Option (Nat × Nat))} (h : RowS σ tL ds) {t : Nat} {cells : List V} (ht : t ≠ tL) (hn : ∀ (i n : Nat), ds[i]? = some (some (t, n)) → n ≤ cells.length) : RowS (supd σ t (some ⟨cells, true⟩)) tL ds := by
  refine ⟨?_, fun i u n hi => ?_, h.inj⟩
  · rw [supd_app, if_neg (Ne.symm ht)]; exact h.hd
  · obtain ⟨h1, h2, cs, h3, h4⟩ := h.row i u n hi
    refine ⟨h1, h2, ?_⟩
    by_cases e : u = t
    · subst e
      exact ⟨cells, supd_same _ _ _, hn i n hi⟩
    · exact ⟨cs, by rw [supd_app, if_neg e]; exact h3, h4⟩
theorem RowS.len {σ : Nat → Option Blk} {tL : Nat} {ds : List (Option (Nat × Nat))} (h : RowS σ tL ds) {i : Nat} {d : Option (Nat × Nat)} (hi : ds[i]? = some d) : (ds.map rowOf)[i]? = some (rowOf d) := by
  rw [List.getElem?_map, hi]; rfl

theorem d_cells {cs : List V} {b : Bool} {i : Nat} : dload (some ⟨cs, b⟩) none i = cs[i]? := rfl
theorem t_celln {σ : Nat → Option Blk} {cs : List V} {t i x : Nat} : dstore (some ⟨cs, true⟩) σ t 1 i (nv x) = if i < cs.length then some (supd σ t (some ⟨cs.set i (nv x), true⟩)) else none := by
  have h0 : dstore (some ⟨cs, true⟩) σ t 1 i (nv x) = if true = true ∧ [nv x].length = 1 ∧ i + 1 ≤ cs.length then some (supd σ t (some ⟨putCells cs i [nv x], true⟩)) else none := rfl
  rw [h0]
  by_cases h : i < cs.length
  · rw [if_pos h, if_pos ⟨rfl, rfl, by omega⟩]; rfl
  · rw [if_neg h, if_neg (by omega)]
theorem t_cellb {σ : Nat → Option Blk} {cs : List V} {t i u o m sz : Nat} {cp : Option Nat} : dstore (some ⟨cs, true⟩) σ t 1 i (.buf u o m cp sz) = if i < cs.length then some (supd σ t (some ⟨cs.set i (.buf u o m cp sz), true⟩)) else none := by
  have h0 : dstore (some ⟨cs, true⟩) σ t 1 i (.buf u o m cp sz) = if true = true ∧ [V.buf u o m cp sz].length = 1 ∧ i + 1 ≤ cs.length then some (supd σ t (some ⟨putCells cs i [.buf u o m cp sz], true⟩)) else none := rfl
  rw [h0]
  by_cases h : i < cs.length
  · rw [if_pos h, if_pos ⟨rfl, rfl, by omega⟩]; rfl
  · rw [if_neg h, if_neg (by omega)]

/-- a function that is given rows -/
theorem own_mk {P : Program} (hmx : P.follows .mixedOrders = true) {f : FuncId} {fn : Func} {code : Code} {vc : VC} {rs : List VRes} (hf : P.funcs[f]? = some fn) (hb : fn.body = some code) (hvc : resCode P fn.ntmps code = vc) (hrs : resResults P fn.results.toList = some rs)
    (hn : 1 ≤ fn.ntmps) (h : ∀ (cg tL : Nat) (σg : Nat → Option Blk) (bs : List (Option (Nat × Nat))), RowS σg tL bs → bs.length ≤ 1000000 → (∀ (i t n : Nat), bs[i]? = some (some (t, n)) → n ≤ 4398046511104) → (∀ t k, σg t = some k → t < cg) →
      VWP P 0 vc (retQ rs fun r c' => r = .lit (.bool true)) ⟨Go.VM.start [.buf tL 0 bs.length none 1], σg, cg⟩) : OwnSpec P f := by
  intro cg tL σg bs h1 h2 h3 h4
  by_cases hd : ∀ t k, σg t = some k → t < cg
  · obtain ⟨e, S', he, hq⟩ := h cg tL σg bs ⟨h1, fun i t n hi => by
      obtain ⟨q1, q2, q3⟩ := h3 t n (List.mem_of_getElem? hi)
      exact ⟨q1, by omega, q3⟩, fun i j t n m => rows_inj h4⟩ h2 (fun i t n hi => (h3 t n (List.mem_of_getElem? hi)).2.1) hd
    have key : ∀ r, vresult S' rs = some r → (e = .ret ∨ e = .normal) → r = .lit (.bool true) → ∃ σ' c', VCallsG P f 0 cg noBlk σg [.buf tL 0 bs.length none 1] (.lit (.bool true)) σ' c' := fun r hr he' e1 => by
      subst e1
      exact ⟨noBlk, S'.c, vcallsG_of_exec hmx hf hb hvc hrs (by simpa using hn) he he' hr (fun t k h => by cases h) (fun t h => absurd rfl h)⟩
    cases e with
    | normal => rw [retQ_normal] at hq; obtain ⟨r, hr, h1⟩ := hq; exact key r hr (.inr rfl) h1
    | ret => rw [retQ_ret] at hq; obtain ⟨r, hr, h1⟩ := hq; exact key r hr (.inl rfl) h1
    | exit id => unfold retQ at hq; exact hq.elim
  · refine ⟨noBlk, 0, fun w Φ μ μg giv vs hmm => absurd (fun t k hk => ?_) hd⟩
    rcases hmm.dom t k hk with ⟨_, h⟩ | ⟨h, _⟩
    · exact h
    · exact absurd h (Nat.not_lt_zero _)

theorem v_once {P : Program} {c0 : Nat} {b : VC} {S : VS} {Q : VEx → VS → Prop} (h : VWP P c0 b (fun e S' => match e with | .normal => False | e => Q e S') S) : VWP P c0 (.loop b) Q S := by
  refine vwp_loop (fun _ S' => S' = S) 0 rfl ?_
  rintro n S' rfl
  refine vwp_mono h ?_
  intro e S2 h2
  cases e with
  | normal => exact h2.elim
  | exit j => exact h2
  | ret => exact h2

section
variable {P : Program} {dr : Bool} {c0 : Nat} {ρ : Nat → V} {σ : Nat → Option Blk} {c i : Nat} {r : List VO} {K : VS → Prop}
theorem s_bsl5 {x0 x1 x2 x3 x4 : X} {n0 n1 n2 n3 n4 : Nat} (h0 : x0.ev ρ = nv n0) (h1 : x1.ev ρ = nv n1) (h2 : x2.ev ρ = nv n2) (h3 : x3.ev ρ = nv n3) (h4 : x4.ev ρ = nv n4) (hk : wps P dr c0 r ⟨upd ρ i (nats (.id c) [n0, n1, n2, n3, n4]), σ, c + 1⟩ K) :
    wps P dr c0 (⟨some i, .bsl true 1 5 [.int .u64 0] [(0, (1, x0)), (1, (1, x1)), (2, (1, x2)), (3, (1, x3)), (4, (1, x4))], none⟩ :: r) ⟨ρ, σ, c⟩ K := by
  refine s_eff rfl (by intros; exact fun h => by cases h) (by intros; exact fun h => by cases h) ⟨_, _, _, none, .bsl (cs := [nv n0, nv n1, nv n2, nv n3, nv n4]) ?_, hk⟩
  simp only [partsOf, List.map, h0, h1, h2, h3, h4]
  rfl
theorem s_appmvG {x y : X} {t n : Nat} {cap : Option Nat} {cs : List V} {ys : List Nat} {u : Tok} (hx : x.ev ρ = .buf t 0 n cap 1) (ht : σ t = some ⟨cs, true⟩) (h0 : c0 ≤ t) (hy : y.ev ρ = nats u ys) (hn : n ≤ cs.length) (hb : n + ys.length ≤ 8796093022208)
    (hk : wps P dr c0 r ⟨upd (kill (some (.inl t)) ρ) i (.buf t 0 (n + ys.length) none 1), supd (killσ t σ) t (some ⟨(cs.take n).map (killV t) ++ ys.map nv, true⟩), c⟩ K) : wps P dr c0 (⟨some i, .app 1 8 [.int .u64 0] x y, none⟩ :: r) ⟨ρ, σ, c⟩ K := by
  have hc : vcells 1 σ (y.ev ρ) = some (ys.map nv) := by rw [hy]; cases u <;> rfl
  refine s_eff rfl (by intros; exact fun h => by cases h) (by intros; exact fun h => by cases h) ⟨_, _, _, some (.inl t), .appMove (k := ys.length) hx ht h0 hc (by simp) (by omega) (by omega) (by omega), ?_⟩
  have e : ((cs.take (n * 1)) ++ ys.map nv).map (killV t) = (cs.take n).map (killV t) ++ ys.map nv := by
    rw [Nat.mul_one, List.map_append]
    have : (ys.map nv).map (killV t) = ys.map nv := by rw [List.map_map]; rfl
    rw [this]
  rw [e]
  exact hk
end
theorem killed_at (t : Nat) (ρ : Nat → V) (j : Nat) : kill (some (.inl t)) ρ j = killV t (ρ j) := rfl
theorem killed_lit (t : Nat) (v : Value) : killV t (.lit v) = .lit v := rfl
theorem killed_buf {t u o n sz : Nat} {cp : Option Nat} (h : u ≠ t) : killV t (.buf u o n cp sz) = .buf u o n cp sz := by simp [killV, h]
theorem killσ_at {t : Nat} {σ : Nat → Option Blk} {u : Nat} {cs : List V} {b : Bool} (h : σ u = some ⟨cs, b⟩) : killσ t σ u = some ⟨cs.map (killV t), b⟩ := by simp [killσ, h]

def rowLen : Option (Nat × Nat) → Nat
  | none => 0
  | some q => q.2

theorem Holds.kill {σ : Nat → Option Blk} {d : Option (Nat × Nat)} {f : Nat → Nat} (h : Holds σ d f) (t : Nat) : Holds (killσ t σ) d f := fun u n hd => by
  obtain ⟨cells, h1, h2⟩ := h u n hd
  exact ⟨_, killσ_at h1, fun k hk => by rw [List.getElem?_map, h2 k hk]; rfl⟩

theorem set_get {ds : List (Option (Nat × Nat))} {i j : Nat} {d x : Option (Nat × Nat)} (h : (ds.set i x)[j]? = some d) : (j = i ∧ d = x) ∨ (j ≠ i ∧ ds[j]? = some d) := by
  rw [List.getElem?_set] at h
  split at h
  · rename_i e
    split at h
    · exact .inl ⟨e.symm, by cases h; rfl⟩
    · cases h
  · rename_i e; exact .inr ⟨fun q => e q.symm, h⟩

/-- a row has grown where it may lie anew -/
theorem RowS.grow {σ : Nat → Option Blk} {tL : Nat} {ds : List (Option (Nat × Nat))} (h : RowS σ tL ds) {i t m : Nat} (hi : ds[i]? = some (some (t, m))) {cs ys : List V} (hn : (m + 5 ≤ cs.length)) (hm2 : m + 5 ≤ 4398046511200) :
    RowS (supd (supd (killσ t σ) t (some ⟨cs, true⟩)) tL (some ⟨((ds.map rowOf).map (killV t)).set i (.buf t 0 (m + 5) none 1), true⟩)) tL (ds.set i (some (t, m + 5))) := by
  have hne := (h.row i t m hi).1
  have hil : i < ds.length := (List.getElem?_eq_some_iff.1 hi).1
  refine ⟨?_, fun j u n hj => ?_, fun j k u n n' hj hk => ?_⟩
  · rw [supd_same]
    refine congrArg some (congrArg (fun l => (⟨l, true⟩ : Blk)) ?_)
    refine List.ext_getElem? fun j => ?_
    rw [List.map_set, List.getElem?_set, List.getElem?_set]
    simp only [List.length_map]
    by_cases e : i = j
    · subst e; rw [if_pos rfl, if_pos rfl]; rfl
    · rw [if_neg e, if_neg e, List.getElem?_map, List.getElem?_map]
      cases hj : ds[j]? with
      | none => rfl
      | some d =>
        cases d with
        | none => rfl
        | some q =>
          obtain ⟨u, n⟩ := q
          have : u ≠ t := by rintro rfl; exact e (h.inj i j u m n hi hj)
          simp only [Option.map, rowOf, killed_buf this]
  · rcases set_get hj with ⟨rfl, e⟩ | ⟨e, hj2⟩
    · cases e
      exact ⟨hne, hm2, cs, by rw [supd_ne _ _ _ _ hne, supd_same], hn⟩
    · obtain ⟨q1, q2, cells, q3, q4⟩ := h.row j u n hj2
      have : u ≠ t := by rintro rfl; exact e (h.inj j i u n m hj2 hi)
      exact ⟨q1, q2, _, by rw [supd_ne _ _ _ _ q1, supd_ne _ _ _ _ this]; exact killσ_at q3, by simpa using q4⟩
  · rcases set_get hj with ⟨rfl, e⟩ | ⟨e, hj2⟩ <;> rcases set_get hk with ⟨rfl, e'⟩ | ⟨e', hk2⟩
    · rfl
    · cases e; exact absurd (h.inj _ _ _ _ _ hk2 hi) e'
    · cases e'; exact absurd (h.inj _ _ _ _ _ hj2 hi) e
    · exact h.inj _ _ _ _ _ hj2 hk2
/-- an empty list has got a row -/
theorem RowS.fresh {σ : Nat → Option Blk} {tL : Nat} {ds : List (Option (Nat × Nat))} (h : RowS σ tL ds) {i t : Nat} (hi : ds[i]? = some none) {cs : List V} (hn : (5 ≤ cs.length)) (hd : ∀ u k, σ u = some k → u < t) :
    RowS (supd (supd σ t (some ⟨cs, true⟩)) tL (some ⟨(ds.map rowOf).set i (.buf t 0 5 none 1), true⟩)) tL (ds.set i (some (t, 5))) := by
  have hne : t ≠ tL := fun e => by have := hd tL _ h.hd; omega
  have hil : i < ds.length := (List.getElem?_eq_some_iff.1 hi).1
  have hnew : ∀ (j u n : Nat), ds[j]? = some (some (u, n)) → u ≠ t := fun j u n hj e => by
    obtain ⟨_, _, cells, q, _⟩ := h.row j u n hj
    have := hd u _ q
    omega
  refine ⟨?_, fun j u n hj => ?_, fun j k u n n' hj hk => ?_⟩
  · rw [supd_same]
    refine congrArg some (congrArg (fun l => (⟨l, true⟩ : Blk)) ?_)
    rw [List.map_set]; rfl
  · rcases set_get hj with ⟨rfl, e⟩ | ⟨e, hj2⟩
    · cases e
      exact ⟨hne, by omega, cs, by rw [supd_ne _ _ _ _ hne, supd_same], hn⟩
    · obtain ⟨q1, q2, cells, q3, q4⟩ := h.row j u n hj2
      exact ⟨q1, q2, cells, by rw [supd_ne _ _ _ _ q1, supd_ne _ _ _ _ (hnew j u n hj2)]; exact q3, q4⟩
  · rcases set_get hj with ⟨rfl, e⟩ | ⟨e, hj2⟩ <;> rcases set_get hk with ⟨rfl, e'⟩ | ⟨e', hk2⟩
    · rfl
    · cases e; exact absurd rfl (hnew _ _ _ hk2)
    · cases e'; exact absurd rfl (hnew _ _ _ hj2)
    · exact h.inj _ _ _ _ _ hj2 hk2

def f1 (j : Nat) : Nat → Nat := fun _ => j % 251 + 1
def f2 (j m : Nat) : Nat → Nat := fun k => if k < m then j % 251 + 1 else 300 + 5 * j + (k - m)
def Dom (σ : Nat → Option Blk) (c : Nat) : Prop := ∀ t k, σ t = some k → t < c
theorem Dom.put {σ : Nat → Option Blk} {c : Nat} (h : Dom σ c) {t : Nat} {b : Option Blk} (ht : t < c) : Dom (supd σ t b) c := fun u k hk => by
  rw [supd_app] at hk
  split at hk
  · rename_i e; rw [e]; exact ht
  · exact h u k hk

theorem own_spec : OwnSpec Try.prog F.surdref01_Own := by
  refine own_mk hm E.surdref01_Own B.surdref01_Own K.surdref01_Own Q.surdref01_Own (by rw [N.surdref01_Own]; decide) ?_
  unfold C.surdref01_Own R.surdref01_Own
  intro cg tL σg bs hR hlen hsz hcg
  (repeat (first | refine v_reg ?_ | refine v_last ?_ | refine vwp_seq ?_ | refine vwp_block ?_ | refine vwp_skip ?_ | refine vwp_exit ?_ | refine vwp_ret ?_ | refine v_cond ?_ | simp only [vm, ite_true, ite_false, eq_self, reduceIte, Nat.reduceEqDiff, Option.map] | refine And.intro (by omega) ?_))
  refine v_loop (fun S => S.ρ 0 = .buf tL 0 bs.length none 1 ∧ RowS S.σ tL bs ∧ (∀ (j : Nat) d, bs[j]? = some d → Holds S.σ d (f1 j)) ∧ Dom S.σ S.c) ?_ ?_
  · refine vwp_loop (fun k S => ∃ i, k = bs.length - i ∧ i ≤ bs.length ∧ S.ρ 0 = .buf tL 0 bs.length none 1 ∧ S.ρ 13 = .buf tL 0 bs.length none 1 ∧ S.ρ 14 = iv (bs.length : Int) ∧ S.ρ 15 = iv (i : Int) ∧ RowS S.σ tL bs ∧ (∀ (j : Nat) d, j < i → bs[j]? = some d → Holds S.σ d (f1 j)) ∧ Dom S.σ S.c) bs.length ?_ ?_
    · exact ⟨0, rfl, Nat.zero_le _, rfl, rfl, rfl, rfl, hR, fun j d h => absurd h (Nat.not_lt_zero _), hcg⟩
    rintro k ⟨ρ2, σ, c2⟩ ⟨i, hk, hin, h0, h13, h14, h15, hR, hH, hc⟩
    dsimp only at h0 h13 h14 h15 hR hH hc
    by_cases g : (i : Int) < bs.length
    · have hil : i < bs.length := by omega
      have hdi := List.getElem?_eq_getElem hil
      have hdr := hR.len hdi
      have hL := hR.hd
      cases hd : bs[i] with
      | none =>
        rw [hd] at hdi hdr
        simp only [rowOf] at hdr
        have z0 : ¬ (0 : Int) < 0 := by decide
        have e1 : (i : Int) + 1 = ((i + 1 : Nat) : Int) := by omega
        (repeat (first | refine v_reg ?_ | refine v_last ?_ | refine vwp_seq ?_ | refine vwp_block ?_ | refine vwp_skip ?_ | refine vwp_exit ?_ | refine vwp_ret ?_ | refine v_cond ?_ | simp only [vm, ite_true, ite_false, eq_self, reduceIte, Nat.reduceEqDiff, Option.map, h0, h13, h14, h15, g, hL, d_cells, hdr, l_nil] | refine And.intro (by omega) ?_))
        refine v_once ?_
        (repeat (first | refine v_reg ?_ | refine v_last ?_ | refine vwp_seq ?_ | refine vwp_block ?_ | refine vwp_skip ?_ | refine vwp_exit ?_ | refine vwp_ret ?_ | refine v_cond ?_ | simp only [vm, ite_true, ite_false, eq_self, reduceIte, Nat.reduceEqDiff, Option.map, z0, h0, h13, h14, h15, e1] | refine And.intro (by omega) ?_))
        have a1 : ∀ (j : Nat) d, j < i + 1 → bs[j]? = some d → Holds σ d (f1 j) := fun j d hj hjd => by
          by_cases e : j = i
          · subst e; rw [hdi] at hjd; cases hjd; exact Holds.none
          · exact hH j d (by omega) hjd
        refine ⟨bs.length - (i + 1), by omega, i + 1, ?_⟩
        (repeat' apply And.intro) <;> first | rfl | omega | assumption | exact a1
      | some q =>
        obtain ⟨t, m⟩ := q
        rw [hd] at hdi hdr
        simp only [rowOf] at hdr
        have e1 : (i : Int) + 1 = ((i + 1 : Nat) : Int) := by omega
        have hm2 := hsz i t m hdi
        (repeat (first | refine v_reg ?_ | refine v_last ?_ | refine vwp_seq ?_ | refine vwp_block ?_ | refine vwp_skip ?_ | refine vwp_exit ?_ | refine vwp_ret ?_ | refine v_cond ?_ | simp only [vm, ite_true, ite_false, eq_self, reduceIte, Nat.reduceEqDiff, Option.map, h0, h13, h14, h15, g, hL, d_cells, hdr] | refine And.intro (by omega) ?_))
        refine vwp_mono (Q := fun e S => e = .exit 2 ∧ S.ρ 0 = .buf tL 0 bs.length none 1 ∧ S.ρ 13 = .buf tL 0 bs.length none 1 ∧ S.ρ 14 = iv (bs.length : Int) ∧ S.ρ 15 = iv (i : Int) ∧ RowS S.σ tL bs ∧ (∀ (j : Nat) d, j < i + 1 → bs[j]? = some d → Holds S.σ d (f1 j)) ∧ Dom S.σ S.c) ?_ ?_
        · refine vwp_loop (fun k2 S => ∃ q, k2 = m - q ∧ q ≤ m ∧ S.ρ 0 = .buf tL 0 bs.length none 1 ∧ S.ρ 13 = .buf tL 0 bs.length none 1 ∧ S.ρ 14 = iv (bs.length : Int) ∧ S.ρ 15 = iv (i : Int) ∧ S.ρ 3 = iv (i : Int) ∧ S.ρ 4 = .buf t 0 m none 1 ∧ S.ρ 21 = iv (m : Int) ∧ S.ρ 22 = iv (q : Int) ∧ RowS S.σ tL bs ∧ (∀ (j : Nat) d, j < i → bs[j]? = some d → Holds S.σ d (f1 j)) ∧ Dom S.σ S.c ∧ Holds S.σ (some (t, q)) (f1 i)) m ?_ ?_
          · refine ⟨0, rfl, Nat.zero_le _, ?_⟩
            simp only [vm, ite_true, ite_false, eq_self, reduceIte, Nat.reduceEqDiff, Option.map, h0, h13, h14, h15]
            obtain ⟨_, _, cells, q3, q4⟩ := hR.row i t m hdi
            have a1 : Holds σ (some (t, 0)) (f1 i) := fun u n h => by cases h; exact ⟨cells, q3, fun k hk => absurd hk (Nat.not_lt_zero _)⟩
            (repeat' apply And.intro) <;> first | rfl | omega | assumption | exact hR | exact hH | exact hc | exact a1
          rintro k2 ⟨ρ3, σ3, c3⟩ ⟨q, hk2, hq, h0, h13, h14, h15, h3, h4, h21, h22, hR3, hH3, hc3, hq3⟩
          dsimp only at h0 h13 h14 h15 h3 h4 h21 h22 hR3 hH3 hc3 hq3
          by_cases g2 : (q : Int) < m
          · obtain ⟨htL, _, cells, q3, q4⟩ := hR3.row i t m hdi
            obtain ⟨cells', q3', q5⟩ := hq3 t q rfl
            obtain rfl : cells' = cells := by rw [q3] at q3'; cases q3'; rfl
            have hql : q < cells'.length := by omega
            have e2 : ((i : Int) % 251 + 1).toNat = i % 251 + 1 := by omega
            have e3 : (q : Int) + 1 = ((q + 1 : Nat) : Int) := by omega
            (repeat (first | refine v_reg ?_ | refine v_last ?_ | refine vwp_seq ?_ | refine vwp_block ?_ | refine vwp_skip ?_ | refine vwp_exit ?_ | refine vwp_ret ?_ | refine v_cond ?_ | simp only [vm, ite_true, ite_false, eq_self, reduceIte, Nat.reduceEqDiff, Option.map, h0, h13, h14, h15, h3, h4, h21, h22, g2, e2, q3, t_celln, hql, e3] | refine And.intro (by omega) ?_))
            have a1 := hR3.put (cells := cells'.set q (nv (i % 251 + 1))) htL (fun j n hj => by rw [List.length_set]; have := hR3.inj i j t m n hdi hj; subst this; rw [hdi] at hj; cases hj; exact q4)
            have a2 : ∀ (j : Nat) d, j < i → bs[j]? = some d → Holds (supd σ3 t (some ⟨cells'.set q (nv (i % 251 + 1)), true⟩)) d (f1 j) := fun j d hj hjd => (hH3 j d hj hjd).put (fun n e => by subst e; have := hR3.inj i j t m n hdi hjd; omega)
            have a3 := hc3.put (b := some ⟨cells'.set q (nv (i % 251 + 1)), true⟩) (hc3 _ _ q3)
            have a4 : Holds (supd σ3 t (some ⟨cells'.set q (nv (i % 251 + 1)), true⟩)) (some (t, q + 1)) (f1 i) := fun u n h => by
              cases h
              refine ⟨_, supd_same _ _ _, fun k hk => ?_⟩
              rw [List.getElem?_set]
              by_cases e : q = k
              · subst e; rw [if_pos rfl, if_pos hql]; rfl
              · rw [if_neg e]; exact q5 k (by omega)
            refine ⟨m - (q + 1), by omega, q + 1, ?_⟩
            (repeat' apply And.intro) <;> first | rfl | omega | assumption | exact a4
          · have hqm : q = m := by omega
            (repeat (first | refine v_reg ?_ | refine v_last ?_ | refine vwp_seq ?_ | refine vwp_block ?_ | refine vwp_skip ?_ | refine vwp_exit ?_ | refine vwp_ret ?_ | refine v_cond ?_ | simp only [vm, ite_true, ite_false, eq_self, reduceIte, Nat.reduceEqDiff, Option.map, h0, h13, h14, h15, h3, h4, h21, h22, g2] | refine And.intro (by omega) ?_))
            refine ⟨fun j d hj hjd => ?_, hc3⟩
            by_cases e : j = i
            · subst e; rw [hdi] at hjd; cases hjd; rw [← hqm]; exact hq3
            · exact hH3 j d (by omega) hjd
        · rintro _ ⟨ρ3, σ3, c3⟩ ⟨rfl, h0, h13, h14, h15, hR3, hH3, hc3⟩
          dsimp only at h0 h13 h14 h15 hR3 hH3 hc3
          (repeat (first | refine v_reg ?_ | refine v_last ?_ | refine vwp_seq ?_ | refine vwp_block ?_ | refine vwp_skip ?_ | refine vwp_exit ?_ | refine vwp_ret ?_ | refine v_cond ?_ | simp only [vm, ite_true, ite_false, eq_self, reduceIte, Nat.reduceEqDiff, Option.map, h0, h13, h14, h15, e1] | refine And.intro (by omega) ?_))
          refine ⟨bs.length - (i + 1), by omega, i + 1, ?_⟩
          (repeat' apply And.intro) <;> first | rfl | omega | assumption | exact hc3
    · (repeat (first | refine v_reg ?_ | refine v_last ?_ | refine vwp_seq ?_ | refine vwp_block ?_ | refine vwp_skip ?_ | refine vwp_exit ?_ | refine vwp_ret ?_ | refine v_cond ?_ | simp only [vm, ite_true, ite_false, eq_self, reduceIte, Nat.reduceEqDiff, Option.map, h0, h13, h14, h15, g] | refine And.intro (by omega) ?_))
      exact ⟨fun j d hj => hH j d (by have := (List.getElem?_eq_some_iff.1 hj).1; omega) hj, hc⟩
  rintro ⟨ρ2, σ2, c2⟩ ⟨h0, hR2, hH2, hc2⟩
  dsimp only at h0 hR2 hH2 hc2
  (repeat (first | refine v_reg ?_ | refine v_last ?_ | refine vwp_seq ?_ | refine vwp_block ?_ | refine vwp_skip ?_ | refine vwp_exit ?_ | refine vwp_ret ?_ | refine v_cond ?_ | simp only [vm, ite_true, ite_false, eq_self, reduceIte, Nat.reduceEqDiff, Option.map, h0] | refine And.intro (by omega) ?_))
  refine v_loop (fun S => S.ρ 0 = .buf tL 0 bs.length none 1 ∧ ∃ ds, ds.length = bs.length ∧ RowS S.σ tL ds ∧ (∀ (j : Nat), j < bs.length → ∃ t, ds[j]? = some (some (t, rowLen (bs.getD j none) + 5)) ∧ Holds S.σ (some (t, rowLen (bs.getD j none) + 5)) (f2 j (rowLen (bs.getD j none)))) ∧ Dom S.σ S.c) ?_ ?_
  · refine vwp_loop (fun k S => ∃ i, k = bs.length - i ∧ i ≤ bs.length ∧ S.ρ 0 = .buf tL 0 bs.length none 1 ∧ S.ρ 34 = .buf tL 0 bs.length none 1 ∧ S.ρ 35 = iv (bs.length : Int) ∧ S.ρ 36 = iv (i : Int) ∧ ∃ ds, ds.length = bs.length ∧ RowS S.σ tL ds ∧
      (∀ (j : Nat), j < i → ∃ t, ds[j]? = some (some (t, rowLen (bs.getD j none) + 5)) ∧ Holds S.σ (some (t, rowLen (bs.getD j none) + 5)) (f2 j (rowLen (bs.getD j none)))) ∧
      (∀ (j : Nat) d, i ≤ j → bs[j]? = some d → ds[j]? = some d ∧ Holds S.σ d (f1 j)) ∧ Dom S.σ S.c) bs.length ?_ ?_
    · exact ⟨0, rfl, Nat.zero_le _, h0, rfl, rfl, rfl, bs, rfl, hR2, fun j h => absurd h (Nat.not_lt_zero _), fun j d _ h => ⟨h, hH2 j d h⟩, hc2⟩
    rintro k ⟨ρ3, σ, c3⟩ ⟨i, hk, hin, h0, h34, h35, h36, ds, hdl, hR, hA, hB, hc⟩
    dsimp only at h0 h34 h35 h36 hR hA hB hc
    by_cases g : (i : Int) < bs.length
    · have hil : i < bs.length := by omega
      have hbi := List.getElem?_eq_getElem hil
      obtain ⟨hdi, hHi⟩ := hB i _ (Nat.le_refl _) hbi
      have hdr := hR.len hdi
      have hL := hR.hd
      have e1 : (i : Int) + 1 = ((i + 1 : Nat) : Int) := by omega
      have e2 : (300 + 5 * (i : Int)).toNat = 300 + 5 * i := by omega
      have m1 : (300 + 5 * i + 1) % 18446744073709551616 = 300 + 5 * i + 1 := Nat.mod_eq_of_lt (by omega)
      have m2 : (300 + 5 * i + 2) % 18446744073709551616 = 300 + 5 * i + 2 := Nat.mod_eq_of_lt (by omega)
      have m3 : (300 + 5 * i + 3) % 18446744073709551616 = 300 + 5 * i + 3 := Nat.mod_eq_of_lt (by omega)
      have m4 : (300 + 5 * i + 4) % 18446744073709551616 = 300 + 5 * i + 4 := Nat.mod_eq_of_lt (by omega)
      obtain ⟨ys, hys⟩ : ∃ ys, ys = [300 + 5 * i, 300 + 5 * i + 1, 300 + 5 * i + 2, 300 + 5 * i + 3, 300 + 5 * i + 4] := ⟨_, rfl⟩
      have hyl : ys.length = 5 := by rw [hys]; rfl
      have hyk : ∀ k, k < 5 → (ys.map nv)[k]? = some (nv (300 + 5 * i + k)) := fun k hk => by
        rw [hys]
        match k, hk with
        | 0, _ => rfl
        | 1, _ => rfl
        | 2, _ => rfl
        | 3, _ => rfl
        | 4, _ => rfl
      cases hd : bs[i] with
      | none =>
        rw [hd] at hdi hdr hbi hHi
        simp only [rowOf] at hdr
        have hrl : rowLen (bs.getD i none) = 0 := by rw [List.getD_eq_getElem?_getD, hbi]; rfl
        (repeat (first | refine v_reg ?_ | refine v_last ?_ | refine vwp_seq ?_ | refine vwp_block ?_ | refine vwp_skip ?_ | refine vwp_exit ?_ | refine vwp_ret ?_ | refine v_cond ?_ | simp only [vm, ite_true, ite_false, eq_self, reduceIte, Nat.reduceEqDiff, Option.map, h0, h34, h35, h36, g, hL, d_cells, hdr, e2, m1, m2, m3, m4] | refine And.intro (by omega) ?_))
        refine s_bsl5 (n0 := 300 + 5 * i) (n1 := 300 + 5 * i + 1) (n2 := 300 + 5 * i + 2) (n3 := 300 + 5 * i + 3) (n4 := 300 + 5 * i + 4) (by simp only [vm, ite_true, ite_false, eq_self, reduceIte, Nat.reduceEqDiff, Option.map]) (by simp only [vm, ite_true, ite_false, eq_self, reduceIte, Nat.reduceEqDiff, Option.map]) (by simp only [vm, ite_true, ite_false, eq_self, reduceIte, Nat.reduceEqDiff, Option.map]) (by simp only [vm, ite_true, ite_false, eq_self, reduceIte, Nat.reduceEqDiff, Option.map]) (by simp only [vm, ite_true, ite_false, eq_self, reduceIte, Nat.reduceEqDiff, Option.map]) ?_
        rw [← hys]
        refine s_app0 (t := .id c3) (l := ys) (by simp only [vm, ite_true, ite_false, eq_self, reduceIte, Nat.reduceEqDiff, Option.map]) (by simp only [vm, ite_true, ite_false, eq_self, reduceIte, Nat.reduceEqDiff, Option.map]) (by omega) (fun e => by rw [e] at hyl; cases hyl) (fun _ => ?_)
        have htL : tL ≠ c3 + 1 := fun e => by have := hc tL _ hL; omega
        have hil2 : i < (ds.map rowOf).length := by rw [List.length_map, hdl]; exact hil
        (repeat (first | refine v_reg ?_ | refine v_last ?_ | refine vwp_seq ?_ | refine vwp_block ?_ | refine vwp_skip ?_ | refine vwp_exit ?_ | refine vwp_ret ?_ | refine v_cond ?_ | simp only [vm, ite_true, ite_false, eq_self, reduceIte, Nat.reduceEqDiff, Option.map, h0, h34, h35, h36, hL, htL, t_cellb, hil2, hyl, e1] | refine And.intro (by omega) ?_))
        have a1 := hR.fresh (t := c3 + 1) (cs := ys.map nv) hdi (by simp [hyl]) (fun u k hk => by have := hc u k hk; omega)
        have a3 : ∀ (j u n n' : Nat) (f : Nat → Nat), ds[j]? = some (some (u, n)) → Holds σ (some (u, n')) f → Holds (supd (supd σ (c3 + 1) (nblk ys)) tL (some ⟨(ds.map rowOf).set i (.buf (c3 + 1) 0 5 none 1), true⟩)) (some (u, n')) f := fun j u n n' f h hf => by
          obtain ⟨q1, _, cells, q3, _⟩ := hR.row j u n h
          have q4 : u ≠ c3 + 1 := fun e => by have := hc u _ q3; omega
          exact (hf.put (fun x e => q4 (by cases e; rfl))).put (fun x e => q1 (by cases e; rfl))
        have a4 : Holds (supd (supd σ (c3 + 1) (nblk ys)) tL (some ⟨(ds.map rowOf).set i (.buf (c3 + 1) 0 5 none 1), true⟩)) (some (c3 + 1, 0 + 5)) (f2 i 0) := fun u n e => by
          cases e
          refine ⟨_, by rw [supd_ne _ _ _ _ (Ne.symm htL), supd_same], fun k hk => ?_⟩
          rw [hyk k (by omega)]
          rfl
        refine ⟨bs.length - (i + 1), by omega, i + 1, rfl, by omega, rfl, ds.set i (some (c3 + 1, 5)), by rw [List.length_set, hdl], a1, fun j hj => ?_, fun j d hj hjd => ?_, ?_⟩
        · by_cases e : j = i
          · subst e
            rw [hrl]
            exact ⟨c3 + 1, by rw [List.getElem?_set_self (by omega)], a4⟩
          · obtain ⟨u, q1, q2⟩ := hA j (by omega)
            exact ⟨u, by rw [List.getElem?_set_ne (Ne.symm e)]; exact q1, a3 j u _ _ _ q1 q2⟩
        · obtain ⟨q1, q2⟩ := hB j d (by omega) hjd
          refine ⟨by rw [List.getElem?_set_ne (by omega)]; exact q1, ?_⟩
          cases d with
          | none => exact Holds.none
          | some q => obtain ⟨u, n⟩ := q; exact a3 j u n n _ q1 q2
        · have hc' : Dom σ (c3 + 1 + 1) := fun u k hk => by have := hc u k hk; omega
          exact (hc'.put (by omega)).put (by have := hc tL _ hL; omega)
      | some q =>
        obtain ⟨t, m⟩ := q
        rw [hd] at hdi hdr hbi hHi
        simp only [rowOf] at hdr
        have hrl : rowLen (bs.getD i none) = m := by rw [List.getD_eq_getElem?_getD, hbi]; rfl
        have hm2 := hsz i t m hbi
        obtain ⟨htL, _, cells, q3, q4⟩ := hR.row i t m hdi
        (repeat (first | refine v_reg ?_ | refine v_last ?_ | refine vwp_seq ?_ | refine vwp_block ?_ | refine vwp_skip ?_ | refine vwp_exit ?_ | refine vwp_ret ?_ | refine v_cond ?_ | simp only [vm, ite_true, ite_false, eq_self, reduceIte, Nat.reduceEqDiff, Option.map, h0, h34, h35, h36, g, hL, d_cells, hdr, e2, m1, m2, m3, m4] | refine And.intro (by omega) ?_))
        refine s_bsl5 (n0 := 300 + 5 * i) (n1 := 300 + 5 * i + 1) (n2 := 300 + 5 * i + 2) (n3 := 300 + 5 * i + 3) (n4 := 300 + 5 * i + 4) (by simp only [vm, ite_true, ite_false, eq_self, reduceIte, Nat.reduceEqDiff, Option.map]) (by simp only [vm, ite_true, ite_false, eq_self, reduceIte, Nat.reduceEqDiff, Option.map]) (by simp only [vm, ite_true, ite_false, eq_self, reduceIte, Nat.reduceEqDiff, Option.map]) (by simp only [vm, ite_true, ite_false, eq_self, reduceIte, Nat.reduceEqDiff, Option.map]) (by simp only [vm, ite_true, ite_false, eq_self, reduceIte, Nat.reduceEqDiff, Option.map]) ?_
        rw [← hys]
        refine s_appmvG (t := t) (n := m) (cap := none) (cs := cells) (u := .id c3) (ys := ys) (by simp only [vm, ite_true, ite_false, eq_self, reduceIte, Nat.reduceEqDiff, Option.map]) q3 (Nat.zero_le _) (by simp only [vm, ite_true, ite_false, eq_self, reduceIte, Nat.reduceEqDiff, Option.map]) q4 (by omega) ?_
        have hil2 : i < ((ds.map rowOf).map (killV t)).length := by rw [List.length_map, List.length_map, hdl]; exact hil
        have hL2 : killσ t σ tL = some ⟨(ds.map rowOf).map (killV t), true⟩ := killσ_at hL
        have hkb : killV t (.buf tL 0 bs.length none 1) = .buf tL 0 bs.length none 1 := killed_buf (Ne.symm htL)
        (repeat (first | refine v_reg ?_ | refine v_last ?_ | refine vwp_seq ?_ | refine vwp_block ?_ | refine vwp_skip ?_ | refine vwp_exit ?_ | refine vwp_ret ?_ | refine v_cond ?_ | simp only [vm, ite_true, ite_false, eq_self, reduceIte, Nat.reduceEqDiff, Option.map, h0, h34, h35, h36, hL2, htL, Ne.symm htL, t_cellb, hil2, hyl, e1, killed_at, killed_lit, hkb] | refine And.intro (by omega) ?_))
        obtain ⟨cs2, hcs2⟩ : ∃ x, x = List.map (killV t) (List.take m cells) ++ List.map nv ys := ⟨_, rfl⟩
        have hcl : m + 5 ≤ cs2.length := by rw [hcs2]; simp [hyl]; omega
        rw [← hcs2]
        have a1 := hR.grow hdi (cs := cs2) (ys := []) hcl (by omega)
        have a3 : ∀ (j u n n' : Nat) (f : Nat → Nat), j ≠ i → ds[j]? = some (some (u, n)) → Holds σ (some (u, n')) f → Holds (supd (supd (killσ t σ) t (some ⟨cs2, true⟩)) tL (some ⟨((ds.map rowOf).map (killV t)).set i (.buf t 0 (m + 5) none 1), true⟩)) (some (u, n')) f := fun j u n n' f hj h hf => by
          obtain ⟨q1, _, cells, q3, _⟩ := hR.row j u n h
          have q4 : u ≠ t := fun e => by subst e; exact hj (hR.inj _ _ _ _ _ h hdi)
          exact ((hf.kill t).put (fun x e => q4 (by cases e; rfl))).put (fun x e => q1 (by cases e; rfl))
        have a4 : Holds (supd (supd (killσ t σ) t (some ⟨cs2, true⟩)) tL (some ⟨((ds.map rowOf).map (killV t)).set i (.buf t 0 (m + 5) none 1), true⟩)) (some (t, m + 5)) (f2 i m) := fun u n e => by
          cases e
          refine ⟨_, by rw [supd_ne _ _ _ _ htL, supd_same], fun k hk => ?_⟩
          obtain ⟨cells', g3, g4⟩ := hHi t m rfl
          obtain rfl : cells' = cells := by rw [q3] at g3; cases g3; rfl
          rw [hcs2]
          by_cases g5 : k < m
          · rw [List.getElem?_append_left (by simp; omega), List.getElem?_map, List.getElem?_take, if_pos g5, g4 k g5]
            unfold f1 f2
            rw [if_pos g5]; rfl
          · rw [List.getElem?_append_right (by simp; omega)]
            have e5 : ((cells'.take m).map (killV t)).length = m := by simp; omega
            rw [e5, hyk (k - m) (by omega)]
            unfold f2
            rw [if_neg g5]
        refine ⟨bs.length - (i + 1), by omega, i + 1, rfl, by omega, rfl, ds.set i (some (t, m + 5)), by rw [List.length_set, hdl], a1, fun j hj => ?_, fun j d hj hjd => ?_, ?_⟩
        · by_cases e : j = i
          · subst e
            rw [hrl]
            exact ⟨t, by rw [List.getElem?_set_self (by omega)], a4⟩
          · obtain ⟨u, q1, q2⟩ := hA j (by omega)
            exact ⟨u, by rw [List.getElem?_set_ne (Ne.symm e)]; exact q1, a3 j u _ _ _ e q1 q2⟩
        · obtain ⟨q1, q2⟩ := hB j d (by omega) hjd
          refine ⟨by rw [List.getElem?_set_ne (by omega)]; exact q1, ?_⟩
          cases d with
          | none => exact Holds.none
          | some q => obtain ⟨u, n⟩ := q; exact a3 j u n n _ (by omega) q1 q2
        · have hc' : Dom (killσ t σ) (c3 + 1) := fun u k hk => by
            obtain ⟨k', hk', _⟩ := Option.map_eq_some_iff.1 hk
            have := hc u k' hk'
            omega
          exact (hc'.put (by have := hc t _ q3; omega)).put (by have := hc tL _ hL; omega)
    · have hin2 : i = bs.length := by omega
      subst hin2
      (repeat (first | refine v_reg ?_ | refine v_last ?_ | refine vwp_seq ?_ | refine vwp_block ?_ | refine vwp_skip ?_ | refine vwp_exit ?_ | refine vwp_ret ?_ | refine v_cond ?_ | simp only [vm, ite_true, ite_false, eq_self, reduceIte, Nat.reduceEqDiff, Option.map, h0, h34, h35, h36, g] | refine And.intro (by omega) ?_))
      exact ⟨ds, hdl, hR, hA, hc⟩
  rintro ⟨ρ3, σ3, c3⟩ ⟨h0, ds, hdl, hR3, hH3, hc3⟩
  dsimp only at h0 hR3 hH3 hc3
  (repeat (first | refine v_reg ?_ | refine v_last ?_ | refine vwp_seq ?_ | refine vwp_block ?_ | refine vwp_skip ?_ | refine vwp_exit ?_ | refine vwp_ret ?_ | refine v_cond ?_ | simp only [vm, ite_true, ite_false, eq_self, reduceIte, Nat.reduceEqDiff, Option.map, h0] | refine And.intro (by omega) ?_))
  refine v_loop (fun S => True) ?_ ?_
  · refine vwp_loop (fun k S => ∃ i, k = bs.length - i ∧ i ≤ bs.length ∧ S.ρ 62 = .buf tL 0 bs.length none 1 ∧ S.ρ 63 = iv (bs.length : Int) ∧ S.ρ 64 = iv (i : Int) ∧ S.σ = σ3) bs.length ?_ ?_
    · exact ⟨0, rfl, Nat.zero_le _, rfl, rfl, rfl, rfl⟩
    rintro k ⟨ρ4, σ, c4⟩ ⟨i, hk, hin, h62, h63, h64, hσ⟩
    dsimp only at h62 h63 h64 hσ
    subst hσ
    by_cases g : (i : Int) < bs.length
    · obtain ⟨t, hdi, hHi⟩ := hH3 i (by omega)
      obtain ⟨m, hm0⟩ : ∃ m, m = rowLen (bs.getD i none) := ⟨_, rfl⟩
      rw [← hm0] at hdi hHi
      obtain ⟨M5, hM5⟩ : ∃ x, x = m + 5 := ⟨_, rfl⟩
      rw [← hM5] at hdi hHi
      have hdr := hR3.len hdi
      simp only [rowOf] at hdr
      have hL := hR3.hd
      obtain ⟨htL, hmb, _⟩ := hR3.row i t M5 hdi
      obtain ⟨cells, q3, q4⟩ := hHi t M5 rfl
      have e1 : (i : Int) + 1 = ((i + 1 : Nat) : Int) := by omega
      (repeat (first | refine v_reg ?_ | refine v_last ?_ | refine vwp_seq ?_ | refine vwp_block ?_ | refine vwp_skip ?_ | refine vwp_exit ?_ | refine vwp_ret ?_ | refine v_cond ?_ | simp only [vm, ite_true, ite_false, eq_self, reduceIte, Nat.reduceEqDiff, Option.map, h62, h63, h64, g, hL, d_cells, hdr] | refine And.intro (by omega) ?_))
      refine vwp_mono (Q := fun e S => e = .exit 8 ∧ S.ρ 62 = .buf tL 0 bs.length none 1 ∧ S.ρ 63 = iv (bs.length : Int) ∧ S.ρ 64 = iv (i : Int) ∧ S.σ = σ) ?_ ?_
      · refine vwp_loop (fun k2 S => ∃ q, k2 = M5 - q ∧ q ≤ M5 ∧ S.ρ 62 = .buf tL 0 bs.length none 1 ∧ S.ρ 63 = iv (bs.length : Int) ∧ S.ρ 64 = iv (i : Int) ∧ S.ρ 9 = iv (i : Int) ∧ S.ρ 10 = .buf t 0 M5 none 1 ∧ S.ρ 69 = .buf t 0 M5 none 1 ∧ S.ρ 70 = iv (M5 : Int) ∧ S.ρ 71 = iv (q : Int) ∧ S.σ = σ) M5 ?_ ?_
        · refine ⟨0, rfl, Nat.zero_le _, ?_⟩
          simp only [vm, ite_true, ite_false, eq_self, reduceIte, Nat.reduceEqDiff, Option.map, h62, h63, h64]
          (repeat' apply And.intro) <;> first | rfl | omega | assumption | exact True.intro
        rintro k2 ⟨ρ5, σ5, c5⟩ ⟨q, hk2, hq, h62, h63, h64, h9, h10, h69, h70, h71, hσ⟩
        dsimp only at h62 h63 h64 h9 h10 h69 h70 h71 hσ
        subst hσ
        have e3 : (q : Int) + 1 = ((q + 1 : Nat) : Int) := by omega
        by_cases g2 : (q : Int) < M5
        · have hv := q4 q (by omega)
          unfold f2 at hv
          by_cases g3 : (q : Int) < (M5 : Int) - 5
          · have g4 : ¬ ((M5 : Int) - 5 ≤ q) := by omega
            rw [if_pos (by omega)] at hv
            have e2 : ((i : Int) % 251 + 1).toNat = i % 251 + 1 := by omega
            (repeat (first | refine v_reg ?_ | refine v_last ?_ | refine vwp_seq ?_ | refine vwp_block ?_ | refine vwp_skip ?_ | refine vwp_exit ?_ | refine vwp_ret ?_ | refine v_cond ?_ | simp only [vm, ite_true, ite_false, eq_self, reduceIte, Nat.reduceEqDiff, Option.map, h62, h63, h64, h9, h10, h69, h70, h71, g2, g3, g4, e2, q3, d_cells, hv, e3] | refine And.intro (by omega) ?_))
            exact ⟨M5 - (q + 1), by omega, q + 1, rfl, by omega, rfl⟩
          · have g4 : (M5 : Int) - 5 ≤ q := by omega
            rw [if_neg (by omega)] at hv
            have e2 : (300 + 5 * (i : Int) + q - M5 + 5).toNat = 300 + 5 * i + (q - m) := by omega
            (repeat (first | refine v_reg ?_ | refine v_last ?_ | refine vwp_seq ?_ | refine vwp_block ?_ | refine vwp_skip ?_ | refine vwp_exit ?_ | refine vwp_ret ?_ | refine v_cond ?_ | simp only [vm, ite_true, ite_false, eq_self, reduceIte, Nat.reduceEqDiff, Option.map, h62, h63, h64, h9, h10, h69, h70, h71, g2, g3, g4, e2, q3, d_cells, hv, e3] | refine And.intro (by omega) ?_))
            exact ⟨M5 - (q + 1), by omega, q + 1, rfl, by omega, rfl⟩
        · (repeat (first | refine v_reg ?_ | refine v_last ?_ | refine vwp_seq ?_ | refine vwp_block ?_ | refine vwp_skip ?_ | refine vwp_exit ?_ | refine vwp_ret ?_ | refine v_cond ?_ | simp only [vm, ite_true, ite_false, eq_self, reduceIte, Nat.reduceEqDiff, Option.map, h62, h63, h64, h9, h10, h69, h70, h71, g2] | refine And.intro (by omega) ?_))
      · rintro _ ⟨ρ5, σ5, c5⟩ ⟨rfl, h62, h63, h64, hσ⟩
        dsimp only at h62 h63 h64 hσ
        subst hσ
        (repeat (first | refine v_reg ?_ | refine v_last ?_ | refine vwp_seq ?_ | refine vwp_block ?_ | refine vwp_skip ?_ | refine vwp_exit ?_ | refine vwp_ret ?_ | refine v_cond ?_ | simp only [vm, ite_true, ite_false, eq_self, reduceIte, Nat.reduceEqDiff, Option.map, h62, h63, h64, e1] | refine And.intro (by omega) ?_))
        refine ⟨bs.length - (i + 1), by omega, i + 1, ?_⟩
        (repeat' apply And.intro) <;> first | rfl | omega | assumption | exact True.intro
    · (repeat (first | refine v_reg ?_ | refine v_last ?_ | refine vwp_seq ?_ | refine vwp_block ?_ | refine vwp_skip ?_ | refine vwp_exit ?_ | refine vwp_ret ?_ | refine v_cond ?_ | simp only [vm, ite_true, ite_false, eq_self, reduceIte, Nat.reduceEqDiff, Option.map, h62, h63, h64, g] | refine And.intro (by omega) ?_))
  rintro ⟨ρ4, σ4, c4⟩ _
  (repeat (first | refine v_reg ?_ | refine v_last ?_ | refine vwp_seq ?_ | refine vwp_block ?_ | refine vwp_skip ?_ | refine vwp_exit ?_ | refine vwp_ret ?_ | refine v_cond ?_ | simp only [vm, ite_true, ite_false, eq_self, reduceIte, Nat.reduceEqDiff, Option.map] | refine And.intro (by omega) ?_))
end Go.Proofs.Ytladcfeibpddeab
set_option linter.unusedSimpArgs false
set_option linter.unusedVariables false
set_option maxRecDepth 100000
set_option maxHeartbeats 8000000
namespace Go.Proofs.Ytladcfeibpddeab
open Go.VM

theorem sub_digit {x y o d : Nat} (hx : x < 4294967296) (hy : y < 4294967296) (ho : o ≤ 1) (hd : d = (x + 4294967296 - y - o) % 4294967296) : d + y + o = x + 4294967296 * (1 - (x + 4294967296 - y - o) / 4294967296) ∧ 1 - (x + 4294967296 - y - o) / 4294967296 ≤ 1 ∧ d < 4294967296 := by omega
theorem sub_m1 {x y o : Nat} (hx : x < 4294967296) (hy : y < 4294967296) (ho : o ≤ 1) : ((x + 4294967296) % 18446744073709551616 + (18446744073709551616 - y % 18446744073709551616)) % 18446744073709551616 = x + 4294967296 - y ∧ (x + 4294967296 - y + (18446744073709551616 - o % 18446744073709551616)) % 18446744073709551616 = x + 4294967296 - y - o ∧ (x + 4294967296 - y - o) / 4294967296 % 18446744073709551616 = (x + 4294967296 - y - o) / 4294967296 ∧ (1 + (18446744073709551616 - (x + 4294967296 - y - o) / 4294967296)) % 18446744073709551616 = 1 - (x + 4294967296 - y - o) / 4294967296 := by omega

theorem sub32_spec (t u : Tok) (a b : List Nat) (c : Nat) (ha : Lim 4294967296 a) (hb : Lim 4294967296 b) (hna : a.length ≤ 1099511627776) (hnb : b.length ≤ a.length) (hle : val 4294967296 b ≤ val 4294967296 a) :
    VSpec Try.prog F.surdref01_Sub c [nats t a, nats u b] (fun r c' => ∃ i, r = nats (.id i) (digs 4294967296 (val 4294967296 a - val 4294967296 b)) ∧ c ≤ i ∧ i < c') := by
  refine spec_mk hm E.surdref01_Sub B.surdref01_Sub K.surdref01_Sub Q.surdref01_Sub (by rw [N.surdref01_Sub]; simp) ?_
  unfold C.surdref01_Sub R.surdref01_Sub
  (repeat (first | refine v_reg ?_ | refine v_last ?_ | refine vwp_seq ?_ | refine vwp_block ?_ | refine vwp_skip ?_ | refine vwp_exit ?_ | refine vwp_ret ?_ | refine v_cond ?_ | simp only [vm, ite_true, ite_false, eq_self, reduceIte, Nat.reduceEqDiff, Option.map] | refine And.intro (by omega) ?_))
  refine s_mk (n := a.length) (m := a.length) (by simp only [vm, ite_true, ite_false, eq_self, reduceIte, Nat.reduceEqDiff, Option.map]) (by simp only [vm, ite_true, ite_false, eq_self, reduceIte, Nat.reduceEqDiff, Option.map]) (Nat.le_refl _) (by omega) ?_
  (repeat (first | refine v_reg ?_ | refine v_last ?_ | refine vwp_seq ?_ | refine vwp_block ?_ | refine vwp_skip ?_ | refine vwp_exit ?_ | refine vwp_ret ?_ | refine v_cond ?_ | simp only [vm, ite_true, ite_false, eq_self, reduceIte, Nat.reduceEqDiff, Option.map] | refine And.intro (by omega) ?_))
  refine v_loop (fun S => ∃ w, w.length = a.length ∧ Lim 4294967296 w ∧ val 4294967296 w = val 4294967296 a - val 4294967296 b ∧ S.ρ 5 = .buf c 0 a.length (some a.length) 1 ∧ S.σ = supd noBlk c (nblk w) ∧ c + 1 ≤ S.c) ?_ ?_
  · refine vwp_loop (fun k S => ∃ i w o, k = a.length - i ∧ i ≤ a.length ∧ w.length = i ∧ Lim 4294967296 w ∧ o ≤ 1 ∧ val 4294967296 w + val 4294967296 (b.take i) = val 4294967296 (a.take i) + 4294967296 ^ i * o ∧ S.ρ 0 = nats t a ∧ S.ρ 1 = nats u b ∧ S.ρ 13 = iv (a.length : Int) ∧ S.ρ 6 = nv o ∧ S.ρ 14 = iv (i : Int) ∧ S.ρ 5 = .buf c 0 a.length (some a.length) 1 ∧ S.σ = supd noBlk c (nblk (w ++ List.replicate (a.length - i) 0)) ∧ c + 1 ≤ S.c) a.length ?_ ?_
    · refine ⟨0, [], 0, by omega, by omega, ?_⟩
      simp only [vm, ite_true, ite_false, eq_self, reduceIte, Nat.reduceEqDiff, Option.map]
      (repeat' apply And.intro) <;> first | rfl | omega | assumption | exact Lim.nil | (simp [val]; done)
    rintro k ⟨ρ2, σ, c4⟩ ⟨i, w, o, hk, hi, hw, hlw, ho, hinv, h0, h1, h13, h6, h14, h5, hσ, hc4⟩
    dsimp only at h0 h1 h13 h6 h14 h5 hσ hc4
    subst hσ
    by_cases g : (i : Int) < a.length
    · have hi' : i < a.length := by omega
      have hxi := ha.getD (i := i) (by decide)
      have hyi := hb.getD (i := i) (by decide)
      have hax := val_take' 4294967296 a i
      have hbx := val_take' 4294967296 b i
      have hlen : (w ++ List.replicate (a.length - i) 0).length = a.length := by simp; omega
      have hset : ∀ v, (w ++ List.replicate (a.length - i) 0).set i v = (w ++ [v]) ++ List.replicate (a.length - (i + 1)) 0 := fun v => by
        have := set_fill w (a.length - (i + 1)) v
        rw [hw] at this
        rw [show a.length - i = a.length - (i + 1) + 1 by omega, this]
      (repeat (first | refine v_reg ?_ | refine v_last ?_ | refine vwp_seq ?_ | refine vwp_block ?_ | refine vwp_skip ?_ | refine vwp_exit ?_ | refine vwp_ret ?_ | refine v_cond ?_ | simp only [vm, ite_true, ite_false, eq_self, reduceIte, Nat.reduceEqDiff, Option.map, h0, h1, h13, h6, h14, h5, g] | refine And.intro (by omega) ?_))
      refine s_call (at_spec u b i c4 (by omega)) (by simp only [vm, ite_true, ite_false, eq_self, reduceIte, Nat.reduceEqDiff, Option.map, List.map, h1, h14]) ?_
      rintro v c5 hc5 rfl
      generalize a.getD i 0 = x at *
      generalize b.getD i 0 = y at *
      obtain ⟨m1, m2, m3, m4⟩ := sub_m1 hxi hyi ho
      obtain ⟨d1, d2, d3⟩ := sub_digit hxi hyi ho rfl
      (repeat (first | refine v_reg ?_ | refine v_last ?_ | refine vwp_seq ?_ | refine vwp_block ?_ | refine vwp_skip ?_ | refine vwp_exit ?_ | refine vwp_ret ?_ | refine v_cond ?_ | simp only [vm, ite_true, ite_false, eq_self, reduceIte, Nat.reduceEqDiff, Option.map, h0, h1, h13, h6, h14, h5, hlen, hset, m1, m2, m3, m4] | refine And.intro (by omega) ?_))
      have key := sub_step (b := 4294967296) hw hinv d1
      rw [← hax, ← hbx] at key
      generalize 1 - (x + 4294967296 - y - o) / 4294967296 = o' at *
      generalize (x + 4294967296 - y - o) % 4294967296 = d at *
      refine ⟨a.length - (i + 1), by omega, i + 1, w ++ [d], o', ?_⟩
      (repeat' apply And.intro) <;> first | rfl | exact key | exact lim_snoc hlw d3 | (simp [hw]; done) | omega | assumption
    · have hi' : i = a.length := by omega
      subst hi'
      (repeat (first | refine v_reg ?_ | refine v_last ?_ | refine vwp_seq ?_ | refine vwp_block ?_ | refine vwp_skip ?_ | refine vwp_exit ?_ | refine vwp_ret ?_ | refine v_cond ?_ | simp only [vm, ite_true, ite_false, eq_self, reduceIte, Nat.reduceEqDiff, Option.map, h0, h1, h13, h6, h14, h5, g] | refine And.intro (by omega) ?_))
      rw [List.take_of_length_le (l := a) (by omega), List.take_of_length_le (l := b) (by omega)] at hinv
      refine ⟨w, ?_⟩
      have e0 : w ++ List.replicate (a.length - a.length) 0 = w := by simp
      rw [e0]
      have hwl := val_lt hlw
      rw [hw] at hwl
      have hc0 : o = 0 := by
        rcases Nat.eq_zero_or_pos o with h | h
        · exact h
        · have : o = 1 := by omega
          rw [this, Nat.mul_one] at hinv
          omega
      rw [hc0, Nat.mul_zero, Nat.add_zero] at hinv
      (repeat' apply And.intro) <;> first | rfl | omega | assumption
  rintro ⟨ρ3, σ, c5⟩ ⟨w, hw, hlw, hvw, h5, hσ, hc5⟩
  dsimp only at h5 hσ hc5
  subst hσ
  refine v_freeze 5 (t := c) (off := 0) (n := a.length) (cap := some a.length) (l := w) (by simp only [vm, ite_true, ite_false, eq_self, reduceIte, Nat.reduceEqDiff, Option.map, h5]) (by simp only [vm, ite_true, ite_false, eq_self, reduceIte, Nat.reduceEqDiff, Option.map]) (by omega) (by omega) ?_
  rw [List.drop_zero, show w.take a.length = w from List.take_of_length_le (by omega)]
  (repeat (first | refine v_reg ?_ | refine v_last ?_ | refine vwp_seq ?_ | refine vwp_block ?_ | refine vwp_skip ?_ | refine vwp_exit ?_ | refine vwp_ret ?_ | refine v_cond ?_ | simp only [vm, ite_true, ite_false, eq_self, reduceIte, Nat.reduceEqDiff, Option.map] | refine And.intro (by omega) ?_))
  refine s_call (norm32_spec (.id c) w c5 hlw (by omega)) (by simp only [vm, ite_true, ite_false, eq_self, reduceIte, Nat.reduceEqDiff, Option.map, List.map]) ?_
  rintro v c6 hc6 rfl
  rw [hvw]
  (repeat (first | refine v_reg ?_ | refine v_last ?_ | refine vwp_seq ?_ | refine vwp_block ?_ | refine vwp_skip ?_ | refine vwp_exit ?_ | refine vwp_ret ?_ | refine v_cond ?_ | simp only [vm, ite_true, ite_false, eq_self, reduceIte, Nat.reduceEqDiff, Option.map] | refine And.intro (by omega) ?_))
  exact ⟨c, rfl, by omega, by omega⟩

theorem shl32_low {x s : Nat} (hs : s ≤ 31) (hx : x < 4294967296) : x * 2 ^ s % 18446744073709551616 = x * 2 ^ s ∧ x * 2 ^ s % 4294967296 + 2 ^ s ≤ 4294967296 ∧ x * 2 ^ s / 4294967296 < 2 ^ s ∧ x * 2 ^ s / 4294967296 % 18446744073709551616 = x * 2 ^ s / 4294967296 ∧ 2 ^ s ≤ 2147483648 := by
  have h31 : 2 ^ s ≤ 2 ^ 31 := Nat.pow_le_pow_right (by decide) hs
  have hp : 0 < 2 ^ s := Nat.two_pow_pos s
  have hlt : x * 2 ^ s < 4294967296 * 2 ^ s := Nat.mul_lt_mul_of_pos_right hx hp
  have h32 : 4294967296 = 2 ^ (32 - s) * 2 ^ s := by rw [← Nat.pow_add, show 32 - s + s = 32 by omega]
  have hlow : x * 2 ^ s % 4294967296 + 2 ^ s ≤ 4294967296 := by
    have e : x * 2 ^ s % 4294967296 = (x % 2 ^ (32 - s)) * 2 ^ s := by rw [h32, Nat.mul_mod_mul_right]
    rw [e, ← Nat.succ_mul, h32]
    exact Nat.mul_le_mul_right _ (Nat.mod_lt _ (Nat.two_pow_pos _))
  have hdiv : x * 2 ^ s / 4294967296 < 2 ^ s := Nat.div_lt_of_lt_mul hlt
  have h1 : x * 2 ^ s < 18446744073709551616 := by
    have : 4294967296 * 2 ^ s ≤ 4294967296 * 2 ^ 31 := Nat.mul_le_mul_left _ h31
    omega
  exact ⟨Nat.mod_eq_of_lt h1, hlow, hdiv, Nat.mod_eq_of_lt (by omega), by omega⟩

theorem shl32_spec (t : Tok) (a : List Nat) (n c : Nat) (ha : Lim 4294967296 a) (hna : a.length ≤ 1099511627776) (hn : n ≤ 1099511627776) :
    VSpec Try.prog F.surdref01_Shl c [nats t a, iv n] (fun r c' => (a = [] ∧ r = nil1) ∨ ∃ i, r = nats (.id i) (digs 4294967296 (val 4294967296 a * 2 ^ n)) ∧ c ≤ i ∧ i < c') := by
  refine spec_mk hm E.surdref01_Shl B.surdref01_Shl K.surdref01_Shl Q.surdref01_Shl (by rw [N.surdref01_Shl]; simp) ?_
  unfold C.surdref01_Shl R.surdref01_Shl
  by_cases g0 : (a.length : Int) = 0
  · (repeat (first | refine v_reg ?_ | refine v_last ?_ | refine vwp_seq ?_ | refine vwp_block ?_ | refine vwp_skip ?_ | refine vwp_exit ?_ | refine vwp_ret ?_ | refine v_cond ?_ | simp only [vm, ite_true, ite_false, eq_self, reduceIte, Nat.reduceEqDiff, Option.map, g0] | refine And.intro (by omega) ?_))
    exact .inl (List.eq_nil_of_length_eq_zero (by omega))
  obtain ⟨q, hq⟩ : ∃ q, q = n / 32 := ⟨_, rfl⟩
  obtain ⟨s, hs⟩ : ∃ s, s = n % 32 := ⟨_, rfl⟩
  have hs31 : s ≤ 31 := by omega
  have eq1 : (n : Int) / 32 = (q : Int) := by omega
  have es1 : (n : Int) % 32 = (s : Int) := by omega
  have el : (a.length : Int) + (q : Int) + 1 = ((q + a.length + 1 : Nat) : Int) := by omega
  (repeat (first | refine v_reg ?_ | refine v_last ?_ | refine vwp_seq ?_ | refine vwp_block ?_ | refine vwp_skip ?_ | refine vwp_exit ?_ | refine vwp_ret ?_ | refine v_cond ?_ | simp only [vm, ite_true, ite_false, eq_self, reduceIte, Nat.reduceEqDiff, Option.map, g0, eq1, el] | refine And.intro (by omega) ?_))
  refine s_mk (n := q + a.length + 1) (m := q + a.length + 1) (by simp only [vm, ite_true, ite_false, eq_self, reduceIte, Nat.reduceEqDiff, Option.map]) (by simp only [vm, ite_true, ite_false, eq_self, reduceIte, Nat.reduceEqDiff, Option.map]) (Nat.le_refl _) (by omega) ?_
  (repeat (first | refine v_reg ?_ | refine v_last ?_ | refine vwp_seq ?_ | refine vwp_block ?_ | refine vwp_skip ?_ | refine vwp_exit ?_ | refine vwp_ret ?_ | refine v_cond ?_ | simp only [vm, ite_true, ite_false, eq_self, reduceIte, Nat.reduceEqDiff, Option.map, es1] | refine And.intro (by omega) ?_))
  refine v_loop (fun S => ∃ w, w.length = q + a.length + 1 ∧ Lim 4294967296 w ∧ val 4294967296 w = val 4294967296 a * 2 ^ n ∧ S.ρ 5 = .buf c 0 (q + a.length + 1) (some (q + a.length + 1)) 1 ∧ S.σ = supd noBlk c (nblk w) ∧ c + 1 ≤ S.c) ?_ ?_
  · refine vwp_loop (fun k S => ∃ i w o, k = a.length - i ∧ i ≤ a.length ∧ w.length = i ∧ Lim 4294967296 w ∧ o < 2 ^ s ∧ val 4294967296 (w ++ [o]) = val 4294967296 (a.take i) * 2 ^ s ∧ S.ρ 1 = iv (n : Int) ∧ S.ρ 6 = iv (s : Int) ∧ S.ρ 21 = nats t a ∧ S.ρ 22 = iv (a.length : Int) ∧ S.ρ 23 = iv (i : Int) ∧ S.ρ 5 = .buf c 0 (q + a.length + 1) (some (q + a.length + 1)) 1 ∧ S.σ = supd noBlk c (nblk ((List.replicate q 0 ++ w) ++ o :: List.replicate (a.length - i) 0)) ∧ c + 1 ≤ S.c) a.length ?_ ?_
    · refine ⟨0, [], 0, by omega, by omega, ?_⟩
      simp only [vm, ite_true, ite_false, eq_self, reduceIte, Nat.reduceEqDiff, Option.map]
      have e0 : List.replicate (q + a.length + 1) 0 = (List.replicate q 0 ++ []) ++ 0 :: List.replicate (a.length - 0) 0 := by
        rw [List.append_nil, ← List.replicate_succ, List.replicate_append_replicate]; rfl
      rw [e0]
      (repeat' apply And.intro) <;> first | rfl | omega | assumption | exact Lim.nil | exact Nat.two_pow_pos s | (simp [val]; done)
    rintro k ⟨ρ2, σ, c4⟩ ⟨i, w, o, hk, hi, hw, hlw, ho, hinv, h1, h6, h21, h22, h23, h5, hσ, hc4⟩
    dsimp only at h1 h6 h21 h22 h23 h5 hσ hc4
    subst hσ
    by_cases g : (i : Int) < a.length
    · have hi' : i < a.length := by omega
      have hxi := ha.getD (i := i) (by decide)
      have hax := val_take' 4294967296 a i
      obtain ⟨m1, m2, m3, m4, m5⟩ := shl32_low hs31 hxi
      have hql : (List.replicate q 0 ++ w).length = i + q := by simp [hw]; omega
      have eiq : ((i : Int) + (q : Int)).toNat = i + q := by omega
      have eiq1 : ((i : Int) + (q : Int) + 1).toNat = i + q + 1 := by omega
      have hlen : ((List.replicate q 0 ++ w) ++ o :: List.replicate (a.length - i) 0).length = q + a.length + 1 := by simp [hw]; omega
      have hget : ((List.replicate q 0 ++ w) ++ o :: List.replicate (a.length - i) 0).getD (i + q) 0 = o := by rw [← hql]; exact getD_at _ _ _
      have hset1 : ∀ v, ((List.replicate q 0 ++ w) ++ o :: List.replicate (a.length - i) 0).set (i + q) v = (List.replicate q 0 ++ w) ++ v :: List.replicate (a.length - i) 0 := fun v => by rw [← hql]; exact set_at _ _ _ _
      have hset2 : ∀ v v', ((List.replicate q 0 ++ w) ++ v :: List.replicate (a.length - i) 0).set (i + q + 1) v' = (List.replicate q 0 ++ (w ++ [v])) ++ v' :: List.replicate (a.length - (i + 1)) 0 := fun v v' => by
        have e : (List.replicate q 0 ++ w) ++ v :: List.replicate (a.length - i) 0 = (List.replicate q 0 ++ (w ++ [v])) ++ 0 :: List.replicate (a.length - (i + 1)) 0 := by
          rw [show a.length - i = a.length - (i + 1) + 1 by omega, List.replicate_succ]; simp
        rw [e, show i + q + 1 = (List.replicate q 0 ++ (w ++ [v])).length by simp [hw]; omega]
        exact set_at _ _ _ _
      have hlen2 : ∀ v, ((List.replicate q 0 ++ w) ++ v :: List.replicate (a.length - i) 0).length = q + a.length + 1 := fun v => by simp [hw]; omega
      have emin : min s 64 = s := by omega
      have hod : (o + a.getD i 0 * 2 ^ s % 4294967296) % 18446744073709551616 = o + a.getD i 0 * 2 ^ s % 4294967296 := Nat.mod_eq_of_lt (by omega)
      have hstep := shl_step (b := 4294967296) (lo := a.getD i 0 * 2 ^ s % 4294967296) (hi := a.getD i 0 * 2 ^ s / 4294967296) (x := a.getD i 0) (P := 2 ^ s) hw hinv (by omega)
      (repeat (first | refine v_reg ?_ | refine v_last ?_ | refine vwp_seq ?_ | refine vwp_block ?_ | refine vwp_skip ?_ | refine vwp_exit ?_ | refine vwp_ret ?_ | refine v_cond ?_ | simp only [vm, ite_true, ite_false, eq_self, reduceIte, Nat.reduceEqDiff, Option.map, h1, h6, h21, h22, h23, h5, g, eq1, eiq, eiq1, hlen, hlen2, hget, hset1, hset2, emin, m1, m4, hod] | refine And.intro (by omega) ?_))
      refine ⟨a.length - (i + 1), by omega, i + 1, w ++ [o + a.getD i 0 * 2 ^ s % 4294967296], a.getD i 0 * 2 ^ s / 4294967296, ?_⟩
      have key : val 4294967296 ((w ++ [o + a.getD i 0 * 2 ^ s % 4294967296]) ++ [a.getD i 0 * 2 ^ s / 4294967296]) = val 4294967296 (a.take (i + 1)) * 2 ^ s := by
        rw [hstep, hax, Nat.add_mul, Nat.mul_assoc]
      have hlw2 := lim_snoc (v := o + a.getD i 0 * 2 ^ s % 4294967296) hlw (by omega)
      (repeat' apply And.intro) <;> first | rfl | exact key | exact hlw2 | exact m3 | (simp [hw]; done) | omega | assumption
    · have hi' : i = a.length := by omega
      subst hi'
      (repeat (first | refine v_reg ?_ | refine v_last ?_ | refine vwp_seq ?_ | refine vwp_block ?_ | refine vwp_skip ?_ | refine vwp_exit ?_ | refine vwp_ret ?_ | refine v_cond ?_ | simp only [vm, ite_true, ite_false, eq_self, reduceIte, Nat.reduceEqDiff, Option.map, h1, h6, h21, h22, h23, h5, g] | refine And.intro (by omega) ?_))
      rw [List.take_length] at hinv
      refine ⟨List.replicate q 0 ++ (w ++ [o]), ?_⟩
      have hwl : Lim 4294967296 (w ++ [o]) := lim_snoc hlw (by have := Nat.pow_le_pow_right (n := 2) (by decide) hs31; omega)
      have key : val 4294967296 (List.replicate q 0 ++ (w ++ [o])) = val 4294967296 a * 2 ^ n := by
        rw [val_zeros, hinv, pow32, Nat.mul_left_comm, ← Nat.pow_add, show 32 * q + s = n by omega]
      have e0 : (List.replicate q 0 ++ w) ++ o :: List.replicate (a.length - a.length) 0 = List.replicate q 0 ++ (w ++ [o]) := by simp
      rw [e0]
      (repeat' apply And.intro) <;> first | rfl | omega | assumption | exact key | exact (Lim.replicate (by decide)).append hwl | (simp [hw]; omega)
  rintro ⟨ρ3, σ, c5⟩ ⟨w, hw, hlw, hvw, h5, hσ, hc5⟩
  dsimp only at h5 hσ hc5
  subst hσ
  refine v_freeze 5 (t := c) (off := 0) (n := q + a.length + 1) (cap := some (q + a.length + 1)) (l := w) (by simp only [vm, ite_true, ite_false, eq_self, reduceIte, Nat.reduceEqDiff, Option.map, h5]) (by simp only [vm, ite_true, ite_false, eq_self, reduceIte, Nat.reduceEqDiff, Option.map]) (by omega) (by omega) ?_
  rw [List.drop_zero, show w.take (q + a.length + 1) = w from List.take_of_length_le (by omega)]
  (repeat (first | refine v_reg ?_ | refine v_last ?_ | refine vwp_seq ?_ | refine vwp_block ?_ | refine vwp_skip ?_ | refine vwp_exit ?_ | refine vwp_ret ?_ | refine v_cond ?_ | simp only [vm, ite_true, ite_false, eq_self, reduceIte, Nat.reduceEqDiff, Option.map] | refine And.intro (by omega) ?_))
  refine s_call (norm32_spec (.id c) w c5 hlw (by omega)) (by simp only [vm, ite_true, ite_false, eq_self, reduceIte, Nat.reduceEqDiff, Option.map, List.map]) ?_
  rintro v c6 hc6 rfl
  rw [hvw]
  (repeat (first | refine v_reg ?_ | refine v_last ?_ | refine vwp_seq ?_ | refine vwp_block ?_ | refine vwp_skip ?_ | refine vwp_exit ?_ | refine vwp_ret ?_ | refine v_cond ?_ | simp only [vm, ite_true, ite_false, eq_self, reduceIte, Nat.reduceEqDiff, Option.map] | refine And.intro (by omega) ?_))
  exact .inr ⟨c, rfl, by omega, by omega⟩
end Go.Proofs.Ytladcfeibpddeab
set_option linter.unusedSimpArgs false
set_option linter.unusedVariables false
set_option maxRecDepth 100000
set_option maxHeartbeats 8000000
namespace Go.Proofs.Ytladcfeibpddeab
open Go.VM

theorem cmpI_le {m n : Nat} : cmpI m n ≤ 0 ↔ m ≤ n := by
  unfold cmpI
  split
  · constructor <;> intros <;> omega
  · split
    · constructor <;> intros <;> omega
    · constructor <;> intros <;> omega
theorem cmpI_pos {m n : Nat} : 0 < cmpI m n ↔ n < m := by
  unfold cmpI
  split
  · constructor <;> intros <;> omega
  · split
    · constructor <;> intros <;> omega
    · constructor <;> intros <;> omega
theorem cmpI_lt {m n : Nat} : cmpI m n < 0 ↔ m < n := by
  unfold cmpI
  split
  · constructor <;> intros <;> omega
  · split
    · constructor <;> intros <;> omega
    · constructor <;> intros <;> omega
theorem cmpI_zero {m n : Nat} : cmpI m n = 0 ↔ m = n := by
  unfold cmpI
  split
  · constructor <;> intros <;> omega
  · split
    · constructor <;> intros <;> omega
    · constructor <;> intros <;> omega
theorem lenR (t : Tok) (n c : Nat) (hn : bl n ≤ 68719476736) : VSpec Try.prog F.surdref01_Num_Len c [nats t (digs 4294967296 n)] (fun r _ => r = iv (bl n)) :=
  len_spec t n c (Nat.le_trans (len32_bl (k := 2147483648) (by omega)) (by decide))
theorem subR (t u : Tok) (m n c : Nat) (hm : bl m ≤ 68719476736) (hle : n ≤ m) : VSpec Try.prog F.surdref01_Sub c [nats t (digs 4294967296 m), nats u (digs 4294967296 n)] (fun r c' => RefR c c' (m - n) r) := by
  have h := sub32_spec t u (digs 4294967296 m) (digs 4294967296 n) c (lim_digs two32 m) (lim_digs two32 n) (Nat.le_trans (len32_bl (k := 2147483648) (by omega)) (by decide)) (le_len two32 hle) (by rw [val_digs two32, val_digs two32]; exact hle)
  rw [val_digs two32, val_digs two32] at h
  exact h
theorem oneR (c : Nat) : VSpec Try.prog F.surdref01_Int c [iv 1] (fun r c' => RefR c c' 1 r) := int_spec 1 c (by decide)
theorem intR (n c : Nat) (hn : n < 9223372036854775808) : VSpec Try.prog F.surdref01_Int c [iv n] (fun r c' => RefR c c' n r) := int_spec n c hn
theorem shlR (t : Tok) (m n c : Nat) (hm : bl m ≤ 68719476736) (hm0 : 0 < m) (hn : n ≤ 1099511627776) : VSpec Try.prog F.surdref01_Shl c [nats t (digs 4294967296 m), iv n] (fun r c' => RefR c c' (m * 2 ^ n) r) := by
  have h := shl32_spec t (digs 4294967296 m) n c (lim_digs two32 m) (Nat.le_trans (len32_bl (k := 2147483648) (by omega)) (by decide)) hn
  rw [val_digs two32] at h
  refine h.mono ?_
  rintro r c' (⟨h1, _⟩ | h1)
  · exact absurd ((digs_eq_nil two32).1 h1) (by omega)
  · exact h1

theorem pow_small {A k : Nat} (hk : 1 ≤ k) (h : A ≤ 1) : A ^ k = A := by
  rcases Nat.eq_zero_or_pos A with e | e
  · rw [e]; exact Nat.zero_pow (by omega)
  · have : A = 1 := by omega
    rw [this, Nat.one_pow]
theorem pow_over {A k M : Nat} (hA : 2 ≤ A) (h : bl M < k) : M < A ^ k :=
  Nat.lt_of_lt_of_le (lt_of_bl (Nat.le_of_lt h)) (Nat.pow_le_pow_left hA k)

theorem told04_spec (t u : Tok) (m n c : Nat) (hm1 : bl m ≤ 67108864) (hn1 : bl n ≤ 67108864) :
    VSpec Try.prog F.surdref04_told c [nats t (digs 4294967296 m), nats u (digs 4294967296 n)] (fun r c' => r = .tup [nats t (digs 4294967296 m), nats u (digs 4294967296 n), iv 0]) := by
  refine spec_mk hm E.surdref04_told B.surdref04_told K.surdref04_told Q.surdref04_told (by rw [N.surdref04_told]; simp) ?_
  unfold C.surdref04_told R.surdref04_told
  (repeat (first | refine v_reg ?_ | refine v_last ?_ | refine vwp_seq ?_ | refine vwp_block ?_ | refine vwp_skip ?_ | refine vwp_exit ?_ | refine vwp_ret ?_ | refine v_cond ?_ | simp only [vm, ite_true, ite_false, eq_self, reduceIte, Nat.reduceEqDiff, Option.map] | refine And.intro (by omega) ?_))
  refine s_call (lenR t m c (by omega)) (by simp only [vm, ite_true, ite_false, eq_self, reduceIte, Nat.reduceEqDiff, Option.map, List.map]) ?_
  rintro v c1 hc1 rfl
  have g1 : ¬ (67108864 : Int) < (bl m : Int) := by omega
  (repeat (first | refine v_reg ?_ | refine v_last ?_ | refine vwp_seq ?_ | refine vwp_block ?_ | refine vwp_skip ?_ | refine vwp_exit ?_ | refine vwp_ret ?_ | refine v_cond ?_ | simp only [vm, ite_true, ite_false, eq_self, reduceIte, Nat.reduceEqDiff, Option.map, g1] | refine And.intro (by omega) ?_))
  refine s_call (lenR u n c1 (by omega)) (by simp only [vm, ite_true, ite_false, eq_self, reduceIte, Nat.reduceEqDiff, Option.map, List.map]) ?_
  rintro v c2 hc2 rfl
  have g2 : ¬ (67108864 : Int) < (bl n : Int) := by omega
  (repeat (first | refine v_reg ?_ | refine v_last ?_ | refine vwp_seq ?_ | refine vwp_block ?_ | refine vwp_skip ?_ | refine vwp_exit ?_ | refine vwp_ret ?_ | refine v_cond ?_ | simp only [vm, ite_true, ite_false, eq_self, reduceIte, Nat.reduceEqDiff, Option.map, g2] | refine And.intro (by omega) ?_))
  omega

end Go.Proofs.Ytladcfeibpddeab
set_option linter.unusedSimpArgs false
set_option linter.unusedVariables false
set_option maxRecDepth 100000
set_option maxHeartbeats 8000000
namespace Go.Proofs.Ytladcfeibpddeab
open Go.VM Go.RowKit

/-! ### answers that can't be -/
theorem rep_nil_len {w : World} {M : Nat → Prop} {μ : Nat → Nat} {c : Nat} {l : List Nat} {v : Value} (h : Rep w M μ c (nats .nil l) v) : l = [] := by
  generalize e : nats .nil l = x at h
  cases h with
  | nil tk sz =>
    simp only [nats, V.sl.injEq] at e
    exact List.map_eq_nil_iff.1 e.2.2
  | sl tk sz n cap a l' vs ht hn hc hs hMb hcap h1 hl =>
    simp only [nats, V.sl.injEq] at e
    obtain ⟨rfl, rfl, rfl⟩ := e
    have h0 : cap * 1 = 0 := ht
    have : (l.map nv).length = 0 := by omega
    exact List.map_eq_nil_iff.1 (List.eq_nil_of_length_eq_zero this)
  | any | lit | agg | tup => cases e
/-- no value is this one -/
def Void (r : V) : Prop := ∀ w M μ c v, ¬ RepE w M μ c r v
theorem void_tup {l : List V} {x : List Nat} (hm0 : nats .nil x ∈ l) (hx : x ≠ []) : Void (.tup l) := by
  intro w M μ c v h
  have h : Rep w M μ c (.tup l) v := h
  cases h with
  | tup _ cs hn hl =>
    obtain ⟨j, hj⟩ := List.getElem?_of_mem hm0
    have hjl := (List.getElem?_eq_some_iff.1 hj).1
    have := hl j _ _ hj (Array.getElem?_eq_getElem (by omega))
    exact hx (rep_nil_len this)
theorem void_one {x : List Nat} (hx : x ≠ []) : Void (nats .nil x) := fun w M μ c v h => hx (rep_nil_len h)
theorem VSpec.clean {P : Program} {f : FuncId} {c : Nat} {xs : List V} {Q1 Q2 : V → Nat → Prop} (h : VSpec P f c xs Q1) (hq : ∀ r c', c ≤ c' → Q1 r c' → Q2 r c' ∨ (Void r ∧ ∃ r2 c2, c ≤ c2 ∧ Q2 r2 c2)) : VSpec P f c xs Q2 := by
  obtain ⟨r, c', h0, h1, h2⟩ := h
  rcases hq r c' h0 h2 with h | ⟨hv, r2, c2, h3, h4⟩
  · exact ⟨r, c', h0, h1, h⟩
  · refine ⟨r2, c2, h3, fun w Φ μ vs hm0 hn ha => (h1 w Φ μ vs hm0 hn ha).mono ?_, h4⟩
    rintro e w' ⟨v, μ', _, _, hr⟩
    exact absurd hr (hv _ _ _ _ _)

/-- nothing, or a row in memory of its own -/
def Row1 (lo hi : Nat) (t : Tok) (l : List Nat) : Prop := (t = .nil ∧ l = []) ∨ ∃ i, t = .id i ∧ lo ≤ i ∧ i < hi
theorem Row1.mono {a b c d : Nat} {t : Tok} {l : List Nat} (h : Row1 a b t l) (h1 : c ≤ a) (h2 : b ≤ d) : Row1 c d t l := by
  rcases h with h | ⟨i, h, h3, h4⟩
  · exact .inl h
  · exact .inr ⟨i, h, by omega, by omega⟩
theorem Row1.of {a b : Nat} {t : Tok} {l : List Nat} (h : Tk a b t) (hl : t = .nil → l = []) : Row1 a b t l := by
  rcases h with rfl | ⟨i, rfl, h⟩
  · exact .inl ⟨rfl, hl rfl⟩
  · exact .inr ⟨i, rfl, h⟩
theorem tk_nil_or {a b : Nat} {t : Tok} (l : List Nat) (h : Tk a b t) : Row1 a b t l ∨ (t = .nil ∧ l ≠ []) := by
  by_cases e : t = .nil ∧ l ≠ []
  · exact .inr e
  · refine .inl (.of h fun e1 => ?_)
    cases l with
    | nil => rfl
    | cons x r => exact absurd ⟨e1, by simp⟩ e

theorem nodup_nodupB : ∀ {l : List Nat}, l.Nodup → nodupB l = true
  | [], _ => rfl
  | a :: r, h => by
    obtain ⟨h1, h2⟩ := List.nodup_cons.1 h
    simp only [nodupB, Bool.and_eq_true, Bool.not_eq_true', List.contains_eq_mem, decide_eq_false_iff_not]
    exact ⟨h1, nodup_nodupB h2⟩

abbrev rowsV (ps : List (Tok × List Nat)) : List V := ps.map fun p => nats p.1 p.2
theorem mem_ids {ps : List (Tok × List Nat)} {i : Nat} (h : i ∈ ids (rowsV ps)) : ∃ p ∈ ps, p.1 = .id i := by
  obtain ⟨x, hx, e⟩ := List.mem_filterMap.1 h
  obtain ⟨p, hp, rfl⟩ := List.mem_map.1 hx
  obtain ⟨t, l⟩ := p
  cases t with
  | id j => simp at e; subst e; exact ⟨_, hp, rfl⟩
  | _ => simp at e
theorem ids_nodup : ∀ {ps : List (Tok × List Nat)}, ps.Pairwise (fun p q => Apt p.1 q.1) → (ids (rowsV ps)).Nodup
  | [], _ => List.nodup_nil
  | (t, l) :: ps, h => by
    obtain ⟨h1, h2⟩ := List.pairwise_cons.1 h
    have ih := ids_nodup h2
    cases t with
    | id j =>
      refine List.nodup_cons.2 ⟨fun hm0 => ?_, ih⟩
      obtain ⟨q, hq, e⟩ := mem_ids hm0
      exact h1 q hq j rfl e
    | nil => exact ih
    | unk => exact ih
    | sub j => exact ih
theorem ownable_of {c0 lo tL : Nat} {ps : List (Tok × List Nat)} (hc : c0 ≤ lo) (h0 : 0 < ps.length) (h1 : ps.length ≤ 1000000) (hp : ∀ p ∈ ps, Row1 lo tL p.1 p.2 ∧ p.2.length ≤ 4398046511104) (hl : lo ≤ tL) (ha : ps.Pairwise (fun p q => Apt p.1 q.1)) : ownable c0 tL (rowsV ps) = true := by
  simp only [ownable, Bool.and_eq_true, decide_eq_true_eq, List.all_eq_true]
  have hid : ∀ i ∈ ids (rowsV ps), lo ≤ i ∧ i < tL := fun i hi => by
    obtain ⟨p, hpm, e⟩ := mem_ids hi
    rcases (hp p hpm).1 with ⟨e1, _⟩ | ⟨j, e1, h3, h4⟩
    · rw [e] at e1; cases e1
    · rw [e] at e1; cases e1; exact ⟨h3, h4⟩
  refine ⟨⟨⟨⟨by simpa using h0, by simpa using h1⟩, fun x hx => ?_⟩, fun t ht => ?_⟩, nodup_nodupB (List.nodup_cons.2 ⟨fun h => ?_, ids_nodup ha⟩)⟩
  · obtain ⟨p, hpm, rfl⟩ := List.mem_map.1 hx
    obtain ⟨t, l⟩ := p
    obtain ⟨h2, h3⟩ := hp _ hpm
    rcases h2 with ⟨e1, e2⟩ | ⟨i, e1, _⟩
    · simp only at e1 e2; subst e1 e2; rfl
    · simp only at e1 h3; subst e1
      simp [rowable, h3]
  · rcases List.mem_cons.1 ht with rfl | h
    · omega
    · have := hid t h; omega
  · have := hid tL h; omega

theorem thawL_lit (ts : List Nat) (v : Value) : V.thawL ts (.lit v) = .lit v := by
  unfold V.thawL
  rw [if_pos (List.all_eq_true.2 fun t _ => (show V.still t 4 (.lit v) = true from rfl))]
theorem thawL_nats {ts : List Nat} {t : Tok} {l : List Nat} (h : ∀ q ∈ ts, t.apart q = true) : V.thawL ts (nats t l) = nats t l := by
  unfold V.thawL
  rw [if_pos]
  refine List.all_eq_true.2 fun q hq => ?_
  simp only [V.still, Bool.and_eq_true, List.all_eq_true, List.mem_map]
  refine ⟨h q hq, ?_⟩
  rintro x ⟨n, _, rfl⟩
  rfl
theorem thawL_kn {lo tL : Nat} {ps : List (Tok × List Nat)} (hp : ∀ p ∈ ps, Row1 lo tL p.1 p.2 ∧ p.2.length ≤ 4398046511104) (hl : lo ≤ tL) {t : Tok} {l : List Nat} (h : Kn lo t) : V.thawL (tL :: ids (rowsV ps)) (nats t l) = nats t l := by
  refine thawL_nats fun q hq => ?_
  have hq : lo ≤ q := by
    rcases List.mem_cons.1 hq with rfl | h
    · exact hl
    · obtain ⟨p, hpm, e⟩ := mem_ids h
      rcases (hp p hpm).1 with ⟨e1, _⟩ | ⟨j, e1, h3, h4⟩
      · rw [e] at e1; cases e1
      · rw [e] at e1; cases e1; exact h3
  rcases h with rfl | ⟨i, rfl | rfl, hi⟩
  · rfl
  · exact beq_no (by omega)
  · exact beq_no (by omega)
theorem killed_own (ts : List Nat) (ρ : Nat → V) (j : Nat) : kill (some (.inr ts)) ρ j = (ρ j).thawL ts := rfl

section
variable {P : Program} {c0 : Nat} {ρ : Nat → V} {c i : Nat} {r : List VO} {K : VS → Prop}
/-- rows are given away (no buffer is live) -/
theorem s_own {f : FuncId} {x : X} {tL lo : Nat} {ps : List (Tok × List Nat)} (hf : OwnSpec P f) (hx : x.ev ρ = .sl (.id tL) 1 (rowsV ps)) (hc : c0 ≤ lo) (h0 : 0 < ps.length) (h1 : ps.length ≤ 1000000) (hp : ∀ p ∈ ps, Row1 lo tL p.1 p.2 ∧ p.2.length ≤ 4398046511104) (hl : lo ≤ tL) (ha : ps.Pairwise (fun p q => Apt p.1 q.1))
    (hk : wps P false c0 r ⟨upd (kill (some (.inr (tL :: ids (rowsV ps)))) ρ) i (bv true), noBlk, c⟩ K) : wps P false c0 (⟨some i, .call f [x], none⟩ :: r) ⟨ρ, noBlk, c⟩ K := by
  show opS P false c0 (.call f [x]) (some i) _ _
  refine ⟨_, _, _, _, .own rfl hf hx (ownable_of hc h0 h1 hp hl ha), ?_⟩
  have e : (fun t => if (tL :: ids (rowsV ps)).contains t = true then none else (noBlk t).map fun b => (⟨b.cells.map (V.thawL (tL :: ids (rowsV ps))), b.live⟩ : Blk)) = noBlk := by
    funext t
    split <;> rfl
  simp only [e]
  exact hk
variable {σ : Nat → Option Blk} {dr : Bool}
theorem s_rows1 {x : X} {p : Tok × List Nat} (h0 : x.ev ρ = nats p.1 p.2) (hk : wps P dr c0 r ⟨upd ρ i (.sl (.id c) 1 (rowsV [p])), σ, c + 1⟩ K) : wps P dr c0 (⟨some i, .bsl true 1 1 [.slice none 0 0] [(0, (1, x))], none⟩ :: r) ⟨ρ, σ, c⟩ K := by
  refine s_eff rfl (by intros; exact fun h => by cases h) (by intros; exact fun h => by cases h) ⟨_, _, _, none, .bsl (cs := rowsV [p]) ?_, hk⟩
  simp only [partsOf, List.map, h0]
  rfl
theorem s_rows2 {x y : X} {p q : Tok × List Nat} (h0 : x.ev ρ = nats p.1 p.2) (h1 : y.ev ρ = nats q.1 q.2) (hk : wps P dr c0 r ⟨upd ρ i (.sl (.id c) 1 (rowsV [p, q])), σ, c + 1⟩ K) : wps P dr c0 (⟨some i, .bsl true 1 2 [.slice none 0 0] [(0, (1, x)), (1, (1, y))], none⟩ :: r) ⟨ρ, σ, c⟩ K := by
  refine s_eff rfl (by intros; exact fun h => by cases h) (by intros; exact fun h => by cases h) ⟨_, _, _, none, .bsl (cs := rowsV [p, q]) ?_, hk⟩
  simp only [partsOf, List.map, h0, h1]
  rfl
theorem s_rows3 {x y z : X} {p q s : Tok × List Nat} (h0 : x.ev ρ = nats p.1 p.2) (h1 : y.ev ρ = nats q.1 q.2) (h2 : z.ev ρ = nats s.1 s.2) (hk : wps P dr c0 r ⟨upd ρ i (.sl (.id c) 1 (rowsV [p, q, s])), σ, c + 1⟩ K) : wps P dr c0 (⟨some i, .bsl true 1 3 [.slice none 0 0] [(0, (1, x)), (1, (1, y)), (2, (1, z))], none⟩ :: r) ⟨ρ, σ, c⟩ K := by
  refine s_eff rfl (by intros; exact fun h => by cases h) (by intros; exact fun h => by cases h) ⟨_, _, _, none, .bsl (cs := rowsV [p, q, s]) ?_, hk⟩
  simp only [partsOf, List.map, h0, h1, h2]
  rfl
end

/-- the answers of 'Root', in memory of their own -/
def RootO (c c' A0 k : Nat) (r : V) : Prop := (bl A0 ≤ 67108864 ∧ ∃ x t1 t2, IsRoot A0 k x ∧ r = .tup [nats t1 (digs 18446744073709551616 x), nats t2 (digs 18446744073709551616 (A0 - x ^ k)), iv 0] ∧ Row1 c c' t1 (digs 18446744073709551616 x) ∧ Row1 c c' t2 (digs 18446744073709551616 (A0 - x ^ k)) ∧ Apt t1 t2) ∨ (67108864 < bl A0 ∧ r = .tup [nil1, nil1, iv 3])
theorem apt_next (c : Nat) : Apt (.id c) (.id (c + 1)) := fun i h1 h2 => by cases h1; cases h2
theorem rootO_of {c c' A0 k : Nat} {r : V} (hc : c ≤ c') (h : RootS c c' A0 k r) : RootO c c' A0 k r ∨ (Void r ∧ ∃ r2 c2, c ≤ c2 ∧ RootO c c2 A0 k r2) := by
  rcases h with ⟨hb, x, t1, t2, hx, rfl, h1, h2, h3⟩ | h
  · have bad : Void (.tup [nats t1 (digs 18446744073709551616 x), nats t2 (digs 18446744073709551616 (A0 - x ^ k)), iv 0]) → Void (.tup [nats t1 (digs 18446744073709551616 x), nats t2 (digs 18446744073709551616 (A0 - x ^ k)), iv 0]) ∧ ∃ r2 c2, c ≤ c2 ∧ RootO c c2 A0 k r2 := fun hv =>
      ⟨hv, _, c + 2, by omega, .inl ⟨hb, x, .id c, .id (c + 1), hx, rfl, .inr ⟨c, rfl, by omega, by omega⟩, .inr ⟨c + 1, rfl, by omega, by omega⟩, apt_next c⟩⟩
    rcases tk_nil_or (digs 18446744073709551616 x) h1 with g1 | ⟨rfl, g1⟩
    · rcases tk_nil_or (digs 18446744073709551616 (A0 - x ^ k)) h2 with g2 | ⟨rfl, g2⟩
      · exact .inl (.inl ⟨hb, x, t1, t2, hx, rfl, g1, g2, h3⟩)
      · exact .inr (bad (void_tup (by simp) g2))
    · exact .inr (bad (void_tup (by simp) g1))
  · exact .inl (.inr h)
theorem root_specO (t : Tok) (a : List Nat) (k : Int) (c : Nat) (ha : Lim 18446744073709551616 a) (hna : a.length ≤ 1099511627776) (hk : k < 9223372036854775808) :
    VSpec Try.prog F.roots_Root c [nats t a, iv k] (fun r c' => (k < 1 → r = .tup [nil1, nil1, iv 40]) ∧ (1 ≤ k → RootO c c' (val 18446744073709551616 a) k.toNat r)) := by
  refine VSpec.clean (root_specS t a k c ha hna hk) fun r c' hc ⟨h1, h2⟩ => ?_
  by_cases g : k < 1
  · exact .inl ⟨h1, fun h => by omega⟩
  · rcases rootO_of hc (h2 (by omega)) with h | ⟨hv, r2, c2, h3, h4⟩
    · exact .inl ⟨h1, fun _ => h⟩
    · exact .inr ⟨hv, r2, c2, h3, fun h => by omega, fun _ => h4⟩
theorem sqrt_specO (t : Tok) (a : List Nat) (c : Nat) (ha : Lim 18446744073709551616 a) (hna : a.length ≤ 1099511627776) :
    VSpec Try.prog F.roots_Sqrt c [nats t a] (fun r c' => RootO c c' (val 18446744073709551616 a) 2 r) :=
  VSpec.clean (sqrt_specS t a c ha hna) fun r c' hc h => rootO_of hc h
end Go.Proofs.Ytladcfeibpddeab
set_option linter.unusedSimpArgs false
set_option linter.unusedVariables false
set_option maxRecDepth 100000
set_option maxHeartbeats 8000000
namespace Go.Proofs.Ytladcfeibpddeab
open Go.VM

theorem cmpI_ge {m n : Nat} : 0 ≤ cmpI m n ↔ n ≤ m := by
  unfold cmpI
  split
  · constructor <;> intros <;> omega
  · split
    · constructor <;> intros <;> omega
    · constructor <;> intros <;> omega
section
variable {P : Program} {c0 : Nat} {ρ : Nat → V} {c i : Nat} {r : List VO} {K : VS → Prop} {σ : Nat → Option Blk} {dr : Bool}
theorem s_bslu {x : X} {n : Nat} (h : x.ev ρ = nv n) (hk : wps P dr c0 r ⟨upd ρ i (nats .unk [n]), σ, c⟩ K) : wps P dr c0 (⟨some i, .bsl false 1 1 [.int .u64 0] [(0, (1, x))], none⟩ :: r) ⟨ρ, σ, c⟩ K := by
  refine s_eff rfl (by intros; exact fun h => by cases h) (by intros; exact fun h => by cases h) ⟨_, _, _, none, .bsl0 (cs := [nv n]) ?_, hk⟩
  simp only [partsOf, List.map, h]
  rfl
end
/-- a number of the reference -/
def RefN (n : Nat) (r : V) : Prop := ∃ tk, r = nats tk (digs 4294967296 n)
theorem RefR.N {c c' n : Nat} {r : V} (h : RefR c c' n r) : RefN n r := by obtain ⟨i, h, _⟩ := h; exact ⟨_, h⟩
theorem shlN (t : Tok) (m n c : Nat) (hm : bl m ≤ 68719476736) (hn : n ≤ 1099511627776) : VSpec Try.prog F.surdref01_Shl c [nats t (digs 4294967296 m), iv n] (fun r c' => RefN (m * 2 ^ n) r) := by
  rcases Nat.eq_zero_or_pos m with h0 | h0
  · subst h0
    refine (shl32_spec t (digs 4294967296 0) n c (lim_digs two32 0) (by decide) hn).mono ?_
    rintro r c' (⟨_, h⟩ | ⟨i, h, _⟩)
    · exact ⟨.nil, by rw [h, Nat.zero_mul]; rfl⟩
    · refine ⟨.id i, ?_⟩
      rw [val_digs two32] at h
      exact h
  · exact (shlR t m n c hm h0 hn).mono fun r c' h => h.N

theorem div_round {q B0 R0 rest k : Nat} (h : q * B0 + rest = R0) (hr : rest < B0 * 2 ^ (k + 1)) (hR : R0 < B0 * 4294967296) (hB : 0 < B0) (hx : B0 * 2 ^ k ≤ rest) :
    (q + 2 ^ k) * B0 + (rest - B0 * 2 ^ k) = R0 ∧ rest - B0 * 2 ^ k < B0 * 2 ^ k ∧ q + 2 ^ k < 4294967296 := by
  have e : (q + 2 ^ k) * B0 + (rest - B0 * 2 ^ k) = R0 := by
    rw [Nat.add_mul, Nat.mul_comm (2 ^ k) B0]
    omega
  refine ⟨e, ?_, ?_⟩
  · rw [Nat.pow_succ, ← Nat.mul_assoc] at hr
    omega
  · have h1 : (q + 2 ^ k) * B0 < 4294967296 * B0 := by rw [Nat.mul_comm 4294967296]; omega
    exact Nat.lt_of_mul_lt_mul_right h1

theorem div32_spec (t u : Tok) (A0 B0 c : Nat) (hA : bl A0 ≤ 67108864) (hB : bl B0 ≤ 67108864) (hB0 : 0 < B0) :
    VSpec Try.prog F.surdref01_Div c [nats t (digs 4294967296 A0), nats u (digs 4294967296 B0)] (fun r c' => ∃ t1 t2, r = .tup [nats t1 (digs 4294967296 (A0 / B0)), nats t2 (digs 4294967296 (A0 % B0))]) := by
  refine spec_mk hm E.surdref01_Div B.surdref01_Div K.surdref01_Div Q.surdref01_Div (by rw [N.surdref01_Div]; simp) ?_
  unfold C.surdref01_Div R.surdref01_Div
  have hla := lim_digs two32 A0
  have va := val_digs two32 A0
  have hna : (digs 4294967296 A0).length ≤ 2097152 := len32_bl (by omega)
  generalize digs 4294967296 A0 = a at *
  (repeat (first | refine v_reg ?_ | refine v_last ?_ | refine vwp_seq ?_ | refine vwp_block ?_ | refine vwp_skip ?_ | refine vwp_exit ?_ | refine vwp_ret ?_ | refine v_cond ?_ | simp only [vm, ite_true, ite_false, eq_self, reduceIte, Nat.reduceEqDiff, Option.map] | refine And.intro (by omega) ?_))
  refine s_mk (n := a.length) (m := a.length) (by simp only [vm, ite_true, ite_false, eq_self, reduceIte, Nat.reduceEqDiff, Option.map]) (by simp only [vm, ite_true, ite_false, eq_self, reduceIte, Nat.reduceEqDiff, Option.map]) (Nat.le_refl _) (by omega) ?_
  (repeat (first | refine v_reg ?_ | refine v_last ?_ | refine vwp_seq ?_ | refine vwp_block ?_ | refine vwp_skip ?_ | refine vwp_exit ?_ | refine vwp_ret ?_ | refine v_cond ?_ | simp only [vm, ite_true, ite_false, eq_self, reduceIte, Nat.reduceEqDiff, Option.map] | refine And.intro (by omega) ?_))
  refine v_loop (fun S => ∃ w tk, w.length = a.length ∧ Lim 4294967296 w ∧ val 4294967296 w = A0 / B0 ∧ S.ρ 6 = nats tk (digs 4294967296 (A0 % B0)) ∧ S.ρ 7 = .buf c 0 a.length (some a.length) 1 ∧ S.σ = supd noBlk c (nblk w) ∧ c + 1 ≤ S.c) ?_ ?_
  · refine vwp_loop (fun k S => ∃ w tk rest, k ≤ a.length ∧ w.length = a.length - k ∧ Lim 4294967296 w ∧ val 4294967296 w * B0 + rest = val 4294967296 (a.drop k) ∧ rest < B0 ∧ S.ρ 0 = nats t a ∧ S.ρ 1 = nats u (digs 4294967296 B0) ∧ S.ρ 6 = nats tk (digs 4294967296 rest) ∧ S.ρ 8 = iv ((k : Int) - 1) ∧ S.ρ 7 = .buf c 0 a.length (some a.length) 1 ∧ S.σ = supd noBlk c (nblk (List.replicate k 0 ++ w)) ∧ c + 1 ≤ S.c) a.length ?_ ?_
    · refine ⟨[], .nil, 0, Nat.le_refl _, by simp, Lim.nil, by simp [val], hB0, ?_⟩
      simp only [vm, ite_true, ite_false, eq_self, reduceIte, Nat.reduceEqDiff, Option.map]
      (repeat' apply And.intro) <;> first | rfl | omega | assumption | (simp; done)
    rintro k ⟨ρ2, σ, c4⟩ ⟨w, tk, rest, hk, hw, hlw, hinv, hrest, h0, h1, h6, h8, h7, hσ, hc4⟩
    dsimp only at h0 h1 h6 h8 h7 hσ hc4
    subst hσ
    rcases Nat.eq_zero_or_pos k with rfl | hkp
    · have g : ¬ (0 : Int) ≤ ((0 : Nat) : Int) - 1 := by omega
      (repeat (first | refine v_reg ?_ | refine v_last ?_ | refine vwp_seq ?_ | refine vwp_block ?_ | refine vwp_skip ?_ | refine vwp_exit ?_ | refine vwp_ret ?_ | refine v_cond ?_ | simp only [vm, ite_true, ite_false, eq_self, reduceIte, Nat.reduceEqDiff, Option.map, h6, h8, h7, g] | refine And.intro (by omega) ?_))
      rw [List.drop_zero, va] at hinv
      obtain ⟨e1, e2⟩ := div_mod_of hinv hrest
      rw [e1, e2]
      exact ⟨w, tk, by omega, hlw, rfl, rfl, rfl, hc4⟩
    obtain ⟨i, rfl⟩ : ∃ i, k = i + 1 := ⟨k - 1, by omega⟩
    have e1 : (((i + 1 : Nat) : Int) - 1) = (i : Int) := by omega
    rw [e1] at h8
    have g : (0 : Int) ≤ (i : Int) := by omega
    have hxi := hla.getD (i := i) (by decide)
    have hdrop := val_drop (b := 4294967296) (l := a) (i := i) (by omega)
    have hbr : bl rest ≤ 67108864 := Nat.le_trans (bl_mono (Nat.le_of_lt hrest)) hB
    (repeat (first | refine v_reg ?_ | refine v_last ?_ | refine vwp_seq ?_ | refine vwp_block ?_ | refine vwp_skip ?_ | refine vwp_exit ?_ | refine vwp_ret ?_ | refine v_cond ?_ | simp only [vm, ite_true, ite_false, eq_self, reduceIte, Nat.reduceEqDiff, Option.map, h0, h1, h6, h8, h7, g] | refine And.intro (by omega) ?_))
    refine s_call (shlN tk rest 32 c4 (by omega) (by decide)) (by simp only [vm, ite_true, ite_false, eq_self, reduceIte, Nat.reduceEqDiff, Option.map, List.map]; rfl) ?_
    rw [show (2 : Nat) ^ 32 = 4294967296 by decide]
    rintro v c5 hc5 ⟨t2, rfl⟩
    (repeat (first | refine v_reg ?_ | refine v_last ?_ | refine vwp_seq ?_ | refine vwp_block ?_ | refine vwp_skip ?_ | refine vwp_exit ?_ | refine vwp_ret ?_ | refine v_cond ?_ | simp only [vm, ite_true, ite_false, eq_self, reduceIte, Nat.reduceEqDiff, Option.map, h0, h1, h6, h8, h7, g] | refine And.intro (by omega) ?_))
    generalize a.getD i 0 = x at *
    refine s_bslu (n := x) (by simp only [vm, ite_true, ite_false, eq_self, reduceIte, Nat.reduceEqDiff, Option.map]) ?_
    refine s_call (norm32_spec .unk [x] c5 (Lim.nil.cons hxi) (by simp)) (by simp only [vm, ite_true, ite_false, eq_self, reduceIte, Nat.reduceEqDiff, Option.map, List.map]) ?_
    rw [show val 4294967296 [x] = x by simp [val]]
    rintro v c6 hc6 rfl
    have hbm := bl_mul_le rest 4294967296
    have hb32 : bl 4294967296 = 33 := by decide
    have hbx : bl x ≤ 32 := bl_le (by exact hxi)
    refine s_call (addR t2 .unk (rest * 4294967296) x c6 (by omega) (by omega)) (by simp only [vm, ite_true, ite_false, eq_self, reduceIte, Nat.reduceEqDiff, Option.map, List.map]) ?_
    rintro v c7 hc7 ⟨j7, rfl, _, _⟩
    obtain ⟨R0, hR0⟩ : ∃ R0, R0 = rest * 4294967296 + x := ⟨_, rfl⟩
    have hbR : bl R0 ≤ 67108898 := by
      rw [hR0]
      exact bl_add_le (k := 67108897) (by omega) (by omega)
    rw [← hR0]
    have hRB : R0 < B0 * 4294967296 := by omega
    have hlen : (List.replicate (i + 1) 0 ++ w).length = a.length := by simp [hw]; omega
    have hset : ∀ v, (List.replicate (i + 1) 0 ++ w).set i v = List.replicate i 0 ++ (v :: w) := set_top w i
    have fin : ∀ q rest', q * B0 + rest' = R0 → val 4294967296 (q :: w) * B0 + rest' = val 4294967296 (a.drop i) := fun q rest' h => by
      rw [hdrop, val_cons]
      exact thr_step hinv (by rw [h, hR0])
    (repeat (first | refine v_reg ?_ | refine v_last ?_ | refine vwp_seq ?_ | refine vwp_block ?_ | refine vwp_skip ?_ | refine vwp_exit ?_ | refine vwp_ret ?_ | refine v_cond ?_ | simp only [vm, ite_true, ite_false, eq_self, reduceIte, Nat.reduceEqDiff, Option.map, h0, h1, h6, h8, h7] | refine And.intro (by omega) ?_))
    refine s_call (cmpR (.id j7) u R0 B0 c7 (by omega) (by omega)) (by simp only [vm, ite_true, ite_false, eq_self, reduceIte, Nat.reduceEqDiff, Option.map, List.map]) ?_
    rintro v c8 hc8 rfl
    by_cases g2 : 0 ≤ cmpI R0 B0
    · have hge := cmpI_ge.1 g2
      (repeat (first | refine v_reg ?_ | refine v_last ?_ | refine vwp_seq ?_ | refine vwp_block ?_ | refine vwp_skip ?_ | refine vwp_exit ?_ | refine vwp_ret ?_ | refine v_cond ?_ | simp only [vm, ite_true, ite_false, eq_self, reduceIte, Nat.reduceEqDiff, Option.map, h0, h1, h6, h8, h7, g2] | refine And.intro (by omega) ?_))
      refine v_loop (fun S => ∃ q tk' rest', q * B0 + rest' = R0 ∧ rest' < B0 ∧ q < 4294967296 ∧ S.ρ 0 = nats t a ∧ S.ρ 1 = nats u (digs 4294967296 B0) ∧ S.ρ 6 = nats tk' (digs 4294967296 rest') ∧ S.ρ 7 = .buf c 0 a.length (some a.length) 1 ∧ S.ρ 8 = iv (i : Int) ∧ S.ρ 9 = nv q ∧ S.σ = supd noBlk c (nblk (List.replicate (i + 1) 0 ++ w)) ∧ c + 1 ≤ S.c) ?_ ?_
      · refine vwp_loop (fun k S => ∃ q tk' rest', k ≤ 32 ∧ q * B0 + rest' = R0 ∧ rest' < B0 * 2 ^ k ∧ q < 4294967296 ∧ S.ρ 0 = nats t a ∧ S.ρ 1 = nats u (digs 4294967296 B0) ∧ S.ρ 6 = nats tk' (digs 4294967296 rest') ∧ S.ρ 7 = .buf c 0 a.length (some a.length) 1 ∧ S.ρ 8 = iv (i : Int) ∧ S.ρ 9 = nv q ∧ S.ρ 10 = iv ((k : Int) - 1) ∧ S.σ = supd noBlk c (nblk (List.replicate (i + 1) 0 ++ w)) ∧ c + 1 ≤ S.c) 32 ?_ ?_
        · refine ⟨0, .id j7, R0, by omega, by omega, hRB, by decide, ?_⟩
          simp only [vm, ite_true, ite_false, eq_self, reduceIte, Nat.reduceEqDiff, Option.map, h0, h1, h8, h7]
          (repeat' apply And.intro) <;> first | rfl | omega | assumption
        rintro k ⟨ρ3, σ, c9⟩ ⟨q, tk', rest', hk, hq, hr', hq32, h0, h1, h6, h7, h8, h9, h10, hσ, hc9⟩
        dsimp only at h0 h1 h6 h7 h8 h9 h10 hσ hc9
        subst hσ
        rcases Nat.eq_zero_or_pos k with rfl | hkp
        · have g3 : ¬ (0 : Int) ≤ ((0 : Nat) : Int) - 1 := by omega
          rw [Nat.pow_zero, Nat.mul_one] at hr'
          (repeat (first | refine v_reg ?_ | refine v_last ?_ | refine vwp_seq ?_ | refine vwp_block ?_ | refine vwp_skip ?_ | refine vwp_exit ?_ | refine vwp_ret ?_ | refine v_cond ?_ | simp only [vm, ite_true, ite_false, eq_self, reduceIte, Nat.reduceEqDiff, Option.map, h0, h1, h6, h7, h8, h9, h10, g3] | refine And.intro (by omega) ?_))
          exact ⟨q, tk', rest', hq, hr', hq32, rfl, rfl, hc9⟩
        obtain ⟨s, rfl⟩ : ∃ s, k = s + 1 := ⟨k - 1, by omega⟩
        have e2 : (((s + 1 : Nat) : Int) - 1) = (s : Int) := by omega
        rw [e2] at h10
        have g3 : (0 : Int) ≤ (s : Int) := by omega
        have hbr' : bl rest' ≤ 67108898 := Nat.le_trans (bl_mono (by omega)) hbR
        have hbBs : bl (B0 * 2 ^ s) ≤ 67108896 := by rw [bl_mul_pow hB0]; omega
        (repeat (first | refine v_reg ?_ | refine v_last ?_ | refine vwp_seq ?_ | refine vwp_block ?_ | refine vwp_skip ?_ | refine vwp_exit ?_ | refine vwp_ret ?_ | refine v_cond ?_ | simp only [vm, ite_true, ite_false, eq_self, reduceIte, Nat.reduceEqDiff, Option.map, h0, h1, h6, h7, h8, h9, h10, g3] | refine And.intro (by omega) ?_))
        refine s_call (shlR u B0 s c9 (by omega) hB0 (by omega)) (by simp only [vm, ite_true, ite_false, eq_self, reduceIte, Nat.reduceEqDiff, Option.map, List.map, h1, h10]) ?_
        rintro v c10 hc10 ⟨j10, rfl, _, _⟩
        (repeat (first | refine v_reg ?_ | refine v_last ?_ | refine vwp_seq ?_ | refine vwp_block ?_ | refine vwp_skip ?_ | refine vwp_exit ?_ | refine vwp_ret ?_ | refine v_cond ?_ | simp only [vm, ite_true, ite_false, eq_self, reduceIte, Nat.reduceEqDiff, Option.map, h0, h1, h6, h7, h8, h9, h10, g3] | refine And.intro (by omega) ?_))
        refine s_call (cmpR tk' (.id j10) rest' (B0 * 2 ^ s) c10 (by omega) (by omega)) (by simp only [vm, ite_true, ite_false, eq_self, reduceIte, Nat.reduceEqDiff, Option.map, List.map, h6]) ?_
        rintro v c11 hc11 rfl
        by_cases g4 : 0 ≤ cmpI rest' (B0 * 2 ^ s)
        · have hge2 := cmpI_ge.1 g4
          obtain ⟨k1, k2, k3⟩ := div_round hq hr' hRB hB0 hge2
          have m1 : min s 64 = s := by omega
          have m2 : 1 * 2 ^ s % 18446744073709551616 = 2 ^ s := by
            rw [Nat.one_mul]
            exact Nat.mod_eq_of_lt (by omega)
          have m3 : (q + 2 ^ s) % 18446744073709551616 = q + 2 ^ s := Nat.mod_eq_of_lt (by omega)
          (repeat (first | refine v_reg ?_ | refine v_last ?_ | refine vwp_seq ?_ | refine vwp_block ?_ | refine vwp_skip ?_ | refine vwp_exit ?_ | refine vwp_ret ?_ | refine v_cond ?_ | simp only [vm, ite_true, ite_false, eq_self, reduceIte, Nat.reduceEqDiff, Option.map, h0, h1, h6, h7, h8, h9, h10, g4] | refine And.intro (by omega) ?_))
          refine s_call (subR tk' (.id j10) rest' (B0 * 2 ^ s) c11 (by omega) hge2) (by simp only [vm, ite_true, ite_false, eq_self, reduceIte, Nat.reduceEqDiff, Option.map, List.map, h6]) ?_
          rintro v c12 hc12 ⟨j12, rfl, _, _⟩
          (repeat (first | refine v_reg ?_ | refine v_last ?_ | refine vwp_seq ?_ | refine vwp_block ?_ | refine vwp_skip ?_ | refine vwp_exit ?_ | refine vwp_ret ?_ | refine v_cond ?_ | simp only [vm, ite_true, ite_false, eq_self, reduceIte, Nat.reduceEqDiff, Option.map, h0, h1, h7, h8, h9, h10, m1, m2, m3] | refine And.intro (by omega) ?_))
          exact ⟨s, by omega, q + 2 ^ s, .id j12, rest' - B0 * 2 ^ s, by omega, k1, k2, k3, rfl, rfl, rfl, by omega⟩
        · have hlt2 : ¬ B0 * 2 ^ s ≤ rest' := fun h => g4 (cmpI_ge.2 h)
          (repeat (first | refine v_reg ?_ | refine v_last ?_ | refine vwp_seq ?_ | refine vwp_block ?_ | refine vwp_skip ?_ | refine vwp_exit ?_ | refine vwp_ret ?_ | refine v_cond ?_ | simp only [vm, ite_true, ite_false, eq_self, reduceIte, Nat.reduceEqDiff, Option.map, h0, h1, h6, h7, h8, h9, h10, g4] | refine And.intro (by omega) ?_))
          exact ⟨s, by omega, q, tk', rest', by omega, hq, by omega, hq32, rfl, rfl, rfl, by omega⟩
      rintro ⟨ρ3, σ, c9⟩ ⟨q, tk', rest', hq, hr', hq32, h0, h1, h6, h7, h8, h9, hσ, hc9⟩
      dsimp only at h0 h1 h6 h7 h8 h9 hσ hc9
      subst hσ
      have hqm : q < 4294967296 := hq32
      (repeat (first | refine v_reg ?_ | refine v_last ?_ | refine vwp_seq ?_ | refine vwp_block ?_ | refine vwp_skip ?_ | refine vwp_exit ?_ | refine vwp_ret ?_ | refine v_cond ?_ | simp only [vm, ite_true, ite_false, eq_self, reduceIte, Nat.reduceEqDiff, Option.map, h0, h1, h6, h7, h8, h9, hlen, hset] | refine And.intro (by omega) ?_))
      exact ⟨i, by omega, q :: w, tk', rest', by omega, by simp [hw]; omega, hlw.cons hq32, fin q rest' hq, hr', rfl, rfl, rfl, by omega⟩
    · have hlt : R0 < B0 := by
        have : ¬ B0 ≤ R0 := fun h => g2 (cmpI_ge.2 h)
        omega
      (repeat (first | refine v_reg ?_ | refine v_last ?_ | refine vwp_seq ?_ | refine vwp_block ?_ | refine vwp_skip ?_ | refine vwp_exit ?_ | refine vwp_ret ?_ | refine v_cond ?_ | simp only [vm, ite_true, ite_false, eq_self, reduceIte, Nat.reduceEqDiff, Option.map, h0, h1, h6, h8, h7, g2, hlen, hset] | refine And.intro (by omega) ?_))
      exact ⟨i, by omega, 0 :: w, .id j7, R0, by omega, by simp [hw]; omega, hlw.cons (by decide), fin 0 R0 (by omega), hlt, rfl, rfl, rfl, by omega⟩
  rintro ⟨ρ3, σ, c5⟩ ⟨w, tk, hw, hlw, hvw, h6, h7, hσ, hc5⟩
  dsimp only at h6 h7 hσ hc5
  subst hσ
  refine v_freeze 7 (t := c) (off := 0) (n := a.length) (cap := some a.length) (l := w) (by simp only [vm, ite_true, ite_false, eq_self, reduceIte, Nat.reduceEqDiff, Option.map, h7]) (by simp only [vm, ite_true, ite_false, eq_self, reduceIte, Nat.reduceEqDiff, Option.map]) (by omega) (by omega) ?_
  rw [List.drop_zero, show w.take a.length = w from List.take_of_length_le (by omega)]
  (repeat (first | refine v_reg ?_ | refine v_last ?_ | refine vwp_seq ?_ | refine vwp_block ?_ | refine vwp_skip ?_ | refine vwp_exit ?_ | refine vwp_ret ?_ | refine v_cond ?_ | simp only [vm, ite_true, ite_false, eq_self, reduceIte, Nat.reduceEqDiff, Option.map, h6] | refine And.intro (by omega) ?_))
  refine s_call (norm32_spec (.id c) w c5 hlw (by omega)) (by simp only [vm, ite_true, ite_false, eq_self, reduceIte, Nat.reduceEqDiff, Option.map, List.map]) ?_
  rintro v c6 hc6 rfl
  rw [hvw]
  (repeat (first | refine v_reg ?_ | refine v_last ?_ | refine vwp_seq ?_ | refine vwp_block ?_ | refine vwp_skip ?_ | refine vwp_exit ?_ | refine vwp_ret ?_ | refine v_cond ?_ | simp only [vm, ite_true, ite_false, eq_self, reduceIte, Nat.reduceEqDiff, Option.map, h6] | refine And.intro (by omega) ?_))
  exact ⟨.id c, tk, rfl⟩
end Go.Proofs.Ytladcfeibpddeab
set_option linter.unusedSimpArgs false
set_option linter.unusedVariables false
set_option maxRecDepth 100000
set_option maxHeartbeats 8000000
namespace Go.VM
theorem step_ge {A p x : Nat} (hp : IsRoot A 2 p) (hx : 0 < x) : p ≤ (x + A / x) / 2 := by
  have h := newton_ge (A := A) (j := 1) (r := p) (x := x) hp.1 hx
  rw [Nat.mul_one, Nat.pow_one] at h
  exact h
theorem step_lt {A p x : Nat} (hp : IsRoot A 2 p) (h : p < x) : (x + A / x) / 2 < x := by
  have h1 : A / x < x := by
    rw [Nat.div_lt_iff_lt_mul (by omega)]
    have h2 := hp.2
    rw [Nat.pow_two] at h2
    exact Nat.lt_of_lt_of_le h2 (Nat.mul_le_mul h h)
  omega
theorem step_eq {A p : Nat} (hp : IsRoot A 2 p) (h : 0 < p) : (p + A / p) / 2 ≤ p + 1 := by
  have h1 : A / p < p + 3 := by
    rw [Nat.div_lt_iff_lt_mul h]
    have h2 := hp.2
    rw [Nat.pow_two, Nat.add_mul, Nat.mul_add, Nat.mul_one, Nat.one_mul] at h2
    rw [Nat.add_mul]
    omega
  omega
theorem step_half (x q : Nat) : x / 2 + q / 2 + (if x % 2 + q % 2 = 2 then 1 else 0) = (x + q) / 2 := by split <;> omega
end Go.VM
namespace Go.Proofs.Ytladcfeibpddeab
open Go.VM

theorem u_and1 {b : Bool} {x : Nat} : sbin .and b (nv x) (nv 1) = some (nv (x % 2)) := by
  have e : (BitVec.ofInt 64 (x : Int) &&& BitVec.ofInt 64 1).toNat = x % 2 := by
    simp only [BitVec.ofInt_natCast, BitVec.toNat_and, BitVec.toNat_ofNat]
    have h := Nat.and_two_pow_sub_one_eq_mod (x % 2 ^ 64) 1
    show (x % 2 ^ 64) &&& (2 ^ 1 - 1) = _
    rw [h]
    omega
  show some (V.lit (.int .u64 (IntKind.u64.wrap ((BitVec.ofInt 64 (x : Int) &&& BitVec.ofInt 64 1).toNat : Int)))) = _
  rw [e, wrap_u64 (by omega) (by omega)]

theorem bit0_spec (t : Tok) (a : List Nat) (c : Nat) (ha : Lim 18446744073709551616 a) (hna : a.length ≤ 1099511627776) : VSpec Try.prog F.nat_Bit c [nats t a, iv 0] (fun r _ => r = iv ((val 18446744073709551616 a % 2 : Nat) : Int)) := by
  refine spec_mk hm E.nat_Bit B.nat_Bit K.nat_Bit Q.nat_Bit (by rw [N.nat_Bit]; simp) ?_
  unfold C.nat_Bit R.nat_Bit
  have g1 : ¬ (0 : Int) < 0 := by decide
  have e1 : (0 : Int) / 64 = 0 := by decide
  have e2 : (0 : Int) % 64 = 0 := by decide
  have e3 : (0 : Int).toNat = 0 := rfl
  cases a with
  | nil =>
    have g2 : (([] : List Nat).length : Int) ≤ 0 := by decide
    (repeat (first | refine v_reg ?_ | refine v_last ?_ | refine vwp_seq ?_ | refine vwp_block ?_ | refine vwp_skip ?_ | refine vwp_exit ?_ | refine vwp_ret ?_ | refine v_cond ?_ | simp only [vm, ite_true, ite_false, eq_self, reduceIte, Nat.reduceEqDiff, Option.map, g1, e1, g2] | refine And.intro (by omega) ?_))
    rfl
  | cons x l =>
    have g2 : ¬ ((x :: l).length : Int) ≤ 0 := by simp only [List.length_cons]; omega
    have e4 : min 0 64 = 0 := by decide
    have e5 : (x :: l).getD 0 0 = x := rfl
    have e6 : x / 2 ^ 0 = x := by rw [Nat.pow_zero, Nat.div_one]
    (repeat (first | refine v_reg ?_ | refine v_last ?_ | refine vwp_seq ?_ | refine vwp_block ?_ | refine vwp_skip ?_ | refine vwp_exit ?_ | refine vwp_ret ?_ | refine v_cond ?_ | simp only [vm, ite_true, ite_false, eq_self, reduceIte, Nat.reduceEqDiff, Option.map, g1, e1, e2, e3, e4, e5, e6, g2, u_and1] | refine And.intro (by omega) ?_))
    rw [val]
    congr 2
    omega

theorem right1_spec (t : Tok) (a : List Nat) (c : Nat) (ha : Lim 18446744073709551616 a) (hna : a.length ≤ 1099511627776) : VSpec Try.prog F.nat_Right c [nats t a, iv 1] (fun r c' => Told c c' (val 18446744073709551616 a / 2) r) := by
  refine spec_mk hm E.nat_Right B.nat_Right K.nat_Right Q.nat_Right (by rw [N.nat_Right]; simp) ?_
  unfold C.nat_Right R.nat_Right
  have hla := digs_len_le two64 ha
  have g1 : ¬ (1 : Int) < 0 := by decide
  have g2 : ¬ (1099511627776 : Int) < 1 := by decide
  have d1 : (1 : Int) / 64 = 0 := by decide
  have d2 : (1 : Int) % 64 = 1 := by decide
  have d3 : (1 : Int).toNat = 1 := rfl
  (repeat (first | refine v_reg ?_ | refine v_last ?_ | refine vwp_seq ?_ | refine vwp_block ?_ | refine vwp_skip ?_ | refine vwp_exit ?_ | refine vwp_ret ?_ | refine v_cond ?_ | simp only [vm, ite_true, ite_false, eq_self, reduceIte, Nat.reduceEqDiff, Option.map, g1, g2] | refine And.intro (by omega) ?_))
  refine s_call (trim_spec t a c ha (by omega)) (by simp only [vm, ite_true, ite_false, eq_self, reduceIte, Nat.reduceEqDiff, Option.map, List.map]) ?_
  rintro v c2 hc2 rfl
  have hx := lim_digs two64 (val 18446744073709551616 a)
  have va := val_digs two64 (val 18446744073709551616 a)
  have hz := digs_eq_nil two64 (n := val 18446744073709551616 a)
  generalize digs 18446744073709551616 (val 18446744073709551616 a) = x at *
  by_cases g3 : (x.length : Int) ≤ 0
  · have hx0 : x = [] := List.eq_nil_of_length_eq_zero (by omega)
    have := hz.1 hx0
    (repeat (first | refine v_reg ?_ | refine v_last ?_ | refine vwp_seq ?_ | refine vwp_block ?_ | refine vwp_skip ?_ | refine vwp_exit ?_ | refine vwp_ret ?_ | refine v_cond ?_ | simp only [vm, ite_true, ite_false, eq_self, reduceIte, Nat.reduceEqDiff, Option.map, g1, g2, d1, d2, d3, g3] | refine And.intro (by omega) ?_))
    rw [this]
    exact .inl ⟨by decide, .nil, rfl, .inl rfl⟩
  (repeat (first | refine v_reg ?_ | refine v_last ?_ | refine vwp_seq ?_ | refine vwp_block ?_ | refine vwp_skip ?_ | refine vwp_exit ?_ | refine vwp_ret ?_ | refine v_cond ?_ | simp only [vm, ite_true, ite_false, eq_self, reduceIte, Nat.reduceEqDiff, Option.map, g1, g2, d1, d2, d3, g3] | refine And.intro (by omega) ?_))
  refine s_mk (n := x.length) (m := x.length) (by simp only [vm, ite_true, ite_false, eq_self, reduceIte, Nat.reduceEqDiff, Option.map]; simp) (by simp only [vm, ite_true, ite_false, eq_self, reduceIte, Nat.reduceEqDiff, Option.map]; simp) (Nat.le_refl _) (by omega) ?_
  obtain ⟨s, hs⟩ : ∃ s, s = 1 := ⟨_, rfl⟩
  have hs64 : s < 64 := by omega
  have hp : (18446744073709551616 : Nat) = 2 ^ s * 2 ^ (64 - s) := by rw [← Nat.pow_add, show s + (64 - s) = 64 by omega]
  (repeat (first | refine v_reg ?_ | refine v_last ?_ | refine vwp_seq ?_ | refine vwp_block ?_ | refine vwp_skip ?_ | refine vwp_exit ?_ | refine vwp_ret ?_ | refine v_cond ?_ | simp only [vm, ite_true, ite_false, eq_self, reduceIte, Nat.reduceEqDiff, Option.map] | refine And.intro (by omega) ?_))
  refine v_loop (fun S => ∃ w, w.length = x.length ∧ Lim 18446744073709551616 w ∧ val 18446744073709551616 w = val 18446744073709551616 x / 2 ^ s ∧ S.ρ 8 = .buf c2 0 x.length (some x.length) 1 ∧ S.σ = supd noBlk c2 (nblk w) ∧ c2 + 1 ≤ S.c) ?_ ?_
  · refine vwp_loop (fun k S => ∃ i w, k = x.length - i ∧ i ≤ x.length ∧ w.length = i ∧ Lim 18446744073709551616 w ∧ val 18446744073709551616 w * 2 ^ s + x.getD 0 0 % 2 ^ s = val 18446744073709551616 (x.take i) + 18446744073709551616 ^ i * (x.getD i 0 % 2 ^ s) ∧ S.ρ 0 = nats t x ∧ S.ρ 6 = iv 0 ∧ S.ρ 7 = nv s ∧ S.ρ 33 = iv x.length ∧ S.ρ 34 = iv i ∧ S.ρ 8 = .buf c2 0 x.length (some x.length) 1 ∧ S.σ = supd noBlk c2 (nblk (w ++ List.replicate (x.length - i) 0)) ∧ c2 + 1 ≤ S.c) x.length ?_ ?_
    · refine ⟨0, [], by omega, by omega, ?_⟩
      simp only [vm, ite_true, ite_false, eq_self, reduceIte, Nat.reduceEqDiff, Option.map]
      (repeat' apply And.intro) <;> first | rfl | omega | assumption | exact Lim.nil | (subst hs; rfl) | (rw [hs]; rfl) | (rw [hs]; decide) | (simp [hs]; done) | (simp [val]; done)
    rintro k ⟨ρ2, σ, c4⟩ ⟨i, w, hk, hi, hw, hlw, hinv, h0, h6, h7, h33, h34, h8, hσ, hc4⟩
    dsimp only at h0 h6 h7 h33 h34 h8 hσ hc4
    subst hσ
    by_cases g : (i : Int) < x.length
    · have hi' : i < x.length := by omega
      have hxi := hx.getD (i := i) (by decide)
      obtain ⟨o1, o2⟩ := down_limb (y := x.getD (i + 1) 0) hs64 hxi
      have e2 : ((i : Int) + 1).toNat = i + 1 := by omega
      have e3 : min s 64 = s := by omega
      have e4 : (63 + (18446744073709551616 - s % 18446744073709551616)) % 18446744073709551616 = 63 - s := by omega
      have e5 : min (63 - s) 64 = 63 - s := by omega
      have e6 : x.getD i 0 / 2 ^ s < 18446744073709551616 := Nat.lt_of_le_of_lt (Nat.div_le_self _ _) hxi
      have e7 : x.getD i 0 / 2 ^ s % 18446744073709551616 = x.getD i 0 / 2 ^ s := Nat.mod_eq_of_lt e6
      have hlen1 : (w ++ List.replicate (x.length - i) 0).length = x.length := by simp; omega
      have hset1 : ∀ v, (w ++ List.replicate (x.length - i) 0).set i v = w ++ v :: List.replicate (x.length - (i + 1)) 0 := fun v => by
        conv => lhs; rw [← hw]
        rw [show x.length - w.length = x.length - (i + 1) + 1 by omega, List.replicate_succ, set_at]
      have hlen2 : ∀ v, (w ++ v :: List.replicate (x.length - (i + 1)) 0).length = x.length := fun v => by simp; omega
      have hget2 : ∀ v, (w ++ v :: List.replicate (x.length - (i + 1)) 0).getD i 0 = v := fun v => by rw [← hw]; exact getD_at _ _ _
      have hset2 : ∀ v u, (w ++ v :: List.replicate (x.length - (i + 1)) 0).set i u = w ++ u :: List.replicate (x.length - (i + 1)) 0 := fun v u => by
        conv => lhs; rw [← hw]
        rw [set_at, hw]
      have key := down_step (y := x.getD (i + 1) 0) hw hinv hp rfl
      rw [← val_take (l := x) (i := i) hi'] at key
      have eapp : ∀ v, w ++ v :: List.replicate (x.length - (i + 1)) 0 = (w ++ [v]) ++ List.replicate (x.length - (i + 1)) 0 := fun v => by simp
      by_cases g5 : (i : Int) + 1 < x.length
      · (repeat (first | refine v_reg ?_ | refine v_last ?_ | refine vwp_seq ?_ | refine vwp_block ?_ | refine vwp_skip ?_ | refine vwp_exit ?_ | refine vwp_ret ?_ | refine v_cond ?_ | simp only [vm, ite_true, ite_false, eq_self, reduceIte, Nat.reduceEqDiff, Option.map, h0, h6, h7, h33, h34, h8, g, g5, Int.zero_add, e2, e3, e4, e5, e7, hlen1, hset1, hlen2, hget2, hset2, u_or, Nat.mod_mod, o1] | refine And.intro (by omega) ?_))
        refine ⟨x.length - (i + 1), by omega, i + 1, w ++ [x.getD i 0 / 2 ^ s + (x.getD (i + 1) 0 % 2 ^ s) * 2 ^ (64 - s)], ?_⟩
        rw [eapp]
        (repeat' apply And.intro) <;> first | rfl | exact key | exact lim_snoc hlw o2 | (simp [hw]; done) | omega | assumption
      · have hy : x.getD (i + 1) 0 = 0 := getD_ge (by omega)
        rw [hy, Nat.zero_mod, Nat.zero_mul, Nat.add_zero] at key
        (repeat (first | refine v_reg ?_ | refine v_last ?_ | refine vwp_seq ?_ | refine vwp_block ?_ | refine vwp_skip ?_ | refine vwp_exit ?_ | refine vwp_ret ?_ | refine v_cond ?_ | simp only [vm, ite_true, ite_false, eq_self, reduceIte, Nat.reduceEqDiff, Option.map, h0, h6, h7, h33, h34, h8, g, g5, Int.zero_add, e2, e3, e4, e5, e7, hlen1, hset1] | refine And.intro (by omega) ?_))
        refine ⟨x.length - (i + 1), by omega, i + 1, w ++ [x.getD i 0 / 2 ^ s], ?_⟩
        rw [eapp, hy, Nat.zero_mod]
        (repeat' apply And.intro) <;> first | rfl | exact key | exact lim_snoc hlw e6 | (simp [hw]; done) | omega | assumption
    · have hi' : i = x.length := by omega
      subst hi'
      (repeat (first | refine v_reg ?_ | refine v_last ?_ | refine vwp_seq ?_ | refine vwp_block ?_ | refine vwp_skip ?_ | refine vwp_exit ?_ | refine vwp_ret ?_ | refine v_cond ?_ | simp only [vm, ite_true, ite_false, eq_self, reduceIte, Nat.reduceEqDiff, Option.map, h0, h6, h7, h33, h34, h8, g] | refine And.intro (by omega) ?_))
      rw [List.take_length, getD_ge (Nat.le_refl _), Nat.zero_mod, Nat.mul_zero, Nat.add_zero] at hinv
      refine ⟨w, ?_⟩
      have e0 : w ++ List.replicate (x.length - x.length) 0 = w := by simp
      rw [e0]
      have hv : val 18446744073709551616 w = val 18446744073709551616 x / 2 ^ s := (div_mod_of hinv (Nat.mod_lt _ (Nat.two_pow_pos s))).1.symm
      (repeat' apply And.intro) <;> first | rfl | omega | assumption | exact hv
  rintro ⟨ρ3, σ, c5⟩ ⟨w, hw, hlw, hvw, h8, hσ, hc5⟩
  dsimp only at h8 hσ hc5
  subst hσ
  refine v_freeze 8 (t := c2) (off := 0) (n := x.length) (cap := some x.length) (l := w) (by simp only [vm, ite_true, ite_false, eq_self, reduceIte, Nat.reduceEqDiff, Option.map, h8]) (by simp only [vm, ite_true, ite_false, eq_self, reduceIte, Nat.reduceEqDiff, Option.map]) (by omega) (by omega) ?_
  rw [List.drop_zero, show w.take x.length = w from List.take_of_length_le (by omega)]
  (repeat (first | refine v_reg ?_ | refine v_last ?_ | refine vwp_seq ?_ | refine vwp_block ?_ | refine vwp_skip ?_ | refine vwp_exit ?_ | refine vwp_ret ?_ | refine v_cond ?_ | simp only [vm, ite_true, ite_false, eq_self, reduceIte, Nat.reduceEqDiff, Option.map] | refine And.intro (by omega) ?_))
  refine s_call (told_spec (.id c2) w c5 hlw (by omega)) (by simp only [vm, ite_true, ite_false, eq_self, reduceIte, Nat.reduceEqDiff, Option.map, List.map]) ?_
  rintro v c6 hc6 rfl
  rw [hvw, va, hs, Nat.pow_one]
  by_cases gb : bl (val 18446744073709551616 a / 2) ≤ 67108864
  · rw [if_pos gb]
    (repeat (first | refine v_reg ?_ | refine v_last ?_ | refine vwp_seq ?_ | refine vwp_block ?_ | refine vwp_skip ?_ | refine vwp_exit ?_ | refine vwp_ret ?_ | refine v_cond ?_ | simp only [vm, ite_true, ite_false, eq_self, reduceIte, Nat.reduceEqDiff, Option.map] | refine And.intro (by omega) ?_))
    exact .inl ⟨gb, .id c2, rfl, .inr ⟨c2, rfl, by omega, by omega⟩⟩
  · rw [if_neg gb]
    (repeat (first | refine v_reg ?_ | refine v_last ?_ | refine vwp_seq ?_ | refine vwp_block ?_ | refine vwp_skip ?_ | refine vwp_exit ?_ | refine vwp_ret ?_ | refine v_cond ?_ | simp only [vm, ite_true, ite_false, eq_self, reduceIte, Nat.reduceEqDiff, Option.map] | refine And.intro (by omega) ?_))
    exact .inr ⟨by omega, rfl⟩
end Go.Proofs.Ytladcfeibpddeab
namespace Go.Proofs.Ytladcfeibpddeab
open Go.VM

/-- Newton's next, for numbers that are not too great -/
theorem step_spec (t u : Tok) (a b : List Nat) (c : Nat) (ha : Lim 18446744073709551616 a) (hb : Lim 18446744073709551616 b) (hna : a.length ≤ 1099511627776) (hnb : b.length ≤ 1099511627776) (hA : bl (val 18446744073709551616 a) ≤ 67108862) (hX : bl (val 18446744073709551616 b) ≤ 67108862) (hpos : 0 < val 18446744073709551616 b) :
    VSpec Try.prog F.roots_Step c [nats t a, nats u b] (fun r c' => ∃ tk, r = .tup [nats tk (digs 18446744073709551616 ((val 18446744073709551616 b + val 18446744073709551616 a / val 18446744073709551616 b) / 2)), iv 0] ∧ Tk c c' tk) := by
  refine spec_mk hm E.roots_Step B.roots_Step K.roots_Step Q.roots_Step (by rw [N.roots_Step]; simp) ?_
  unfold C.roots_Step R.roots_Step
  (repeat (first | refine v_reg ?_ | refine v_last ?_ | refine vwp_seq ?_ | refine vwp_block ?_ | refine vwp_skip ?_ | refine vwp_exit ?_ | refine vwp_ret ?_ | refine v_cond ?_ | simp only [vm, ite_true, ite_false, eq_self, reduceIte, Nat.reduceEqDiff, Option.map] | refine And.intro (by omega) ?_))
  refine s_call (quo_spec t u a b c ha hb hna hnb) (by simp only [vm, ite_true, ite_false, eq_self, reduceIte, Nat.reduceEqDiff, Option.map, List.map]) ?_
  rintro v c1 hc1 ⟨_, h⟩
  obtain ⟨A0, hA0⟩ : ∃ A0, A0 = val 18446744073709551616 a := ⟨_, rfl⟩
  obtain ⟨x, hx⟩ : ∃ x, x = val 18446744073709551616 b := ⟨_, rfl⟩
  rw [← hA0] at hA h ⊢
  rw [← hx] at hX hpos h ⊢
  have hqA : A0 / x ≤ A0 := Nat.div_le_self _ _
  have hqb := bl_mono hqA
  rcases h hpos with ⟨_, t1, rfl, ht1⟩ | ⟨hbad, _⟩
  rotate_left
  · omega
  have hql := lim_digs two64 (A0 / x)
  have vq := val_digs two64 (A0 / x)
  have hqn : (digs 18446744073709551616 (A0 / x)).length ≤ 1048576 := digs_len_bl (by omega)
  obtain ⟨q, hq⟩ : ∃ q, q = A0 / x := ⟨_, rfl⟩
  rw [← hq] at hqb hql vq hqn ⊢
  have g1 : ¬ (0 : Int) = 30 := by decide
  (repeat (first | refine v_reg ?_ | refine v_last ?_ | refine vwp_seq ?_ | refine vwp_block ?_ | refine vwp_skip ?_ | refine vwp_exit ?_ | refine vwp_ret ?_ | refine v_cond ?_ | simp only [vm, ite_true, ite_false, eq_self, reduceIte, Nat.reduceEqDiff, Option.map, g1] | refine And.intro (by omega) ?_))
  refine s_call (right1_spec u b c1 hb hnb) (by simp only [vm, ite_true, ite_false, eq_self, reduceIte, Nat.reduceEqDiff, Option.map, List.map]) ?_
  rw [← hx]
  have hxh : bl (x / 2) ≤ 67108862 := Nat.le_trans (bl_mono (Nat.div_le_self _ _)) hX
  have hqh : bl (q / 2) ≤ 67108862 := Nat.le_trans (bl_mono (Nat.div_le_self _ _)) (by omega)
  rintro v c2 hc2 (⟨_, t2, rfl, ht2⟩ | ⟨hbad, _⟩)
  rotate_left
  · omega
  (repeat (first | refine v_reg ?_ | refine v_last ?_ | refine vwp_seq ?_ | refine vwp_block ?_ | refine vwp_skip ?_ | refine vwp_exit ?_ | refine vwp_ret ?_ | refine v_cond ?_ | simp only [vm, ite_true, ite_false, eq_self, reduceIte, Nat.reduceEqDiff, Option.map] | refine And.intro (by omega) ?_))
  refine s_call (right1_spec t1 (digs 18446744073709551616 q) c2 hql (by omega)) (by simp only [vm, ite_true, ite_false, eq_self, reduceIte, Nat.reduceEqDiff, Option.map, List.map]) ?_
  rw [vq]
  rintro v c3 hc3 (⟨_, t3, rfl, ht3⟩ | ⟨hbad, _⟩)
  rotate_left
  · omega
  have h2l := lim_digs two64 (x / 2)
  have v2 := val_digs two64 (x / 2)
  have h2n : (digs 18446744073709551616 (x / 2)).length ≤ 1048576 := digs_len_bl (by omega)
  have h3l := lim_digs two64 (q / 2)
  have v3 := val_digs two64 (q / 2)
  have h3n : (digs 18446744073709551616 (q / 2)).length ≤ 1048576 := digs_len_bl (by omega)
  have hsb : bl (x / 2 + q / 2) ≤ 67108863 := bl_add_le hxh hqh
  (repeat (first | refine v_reg ?_ | refine v_last ?_ | refine vwp_seq ?_ | refine vwp_block ?_ | refine vwp_skip ?_ | refine vwp_exit ?_ | refine vwp_ret ?_ | refine v_cond ?_ | simp only [vm, ite_true, ite_false, eq_self, reduceIte, Nat.reduceEqDiff, Option.map] | refine And.intro (by omega) ?_))
  refine s_call (add_spec t2 t3 _ _ c3 h2l h3l (by omega) (by omega)) (by simp only [vm, ite_true, ite_false, eq_self, reduceIte, Nat.reduceEqDiff, Option.map, List.map]) ?_
  rw [v2, v3]
  rintro v c4 hc4 (⟨_, t4, rfl, ht4⟩ | ⟨hbad, _⟩)
  rotate_left
  · omega
  have h4l := lim_digs two64 (x / 2 + q / 2)
  have v4 := val_digs two64 (x / 2 + q / 2)
  have h4n : (digs 18446744073709551616 (x / 2 + q / 2)).length ≤ 1048576 := digs_len_bl (by omega)
  (repeat (first | refine v_reg ?_ | refine v_last ?_ | refine vwp_seq ?_ | refine vwp_block ?_ | refine vwp_skip ?_ | refine vwp_exit ?_ | refine vwp_ret ?_ | refine v_cond ?_ | simp only [vm, ite_true, ite_false, eq_self, reduceIte, Nat.reduceEqDiff, Option.map] | refine And.intro (by omega) ?_))
  refine s_call (bit0_spec u b c4 hb hnb) (by simp only [vm, ite_true, ite_false, eq_self, reduceIte, Nat.reduceEqDiff, Option.map, List.map]) ?_
  rintro v c5 hc5 rfl
  rw [← hx]
  (repeat (first | refine v_reg ?_ | refine v_last ?_ | refine vwp_seq ?_ | refine vwp_block ?_ | refine vwp_skip ?_ | refine vwp_exit ?_ | refine vwp_ret ?_ | refine v_cond ?_ | simp only [vm, ite_true, ite_false, eq_self, reduceIte, Nat.reduceEqDiff, Option.map] | refine And.intro (by omega) ?_))
  refine s_call (bit0_spec t1 (digs 18446744073709551616 q) c5 hql (by omega)) (by simp only [vm, ite_true, ite_false, eq_self, reduceIte, Nat.reduceEqDiff, Option.map, List.map]) ?_
  rintro v c6 hc6 rfl
  rw [vq]
  have hstep := step_half x q
  by_cases g : ((x % 2 : Nat) : Int) + ((q % 2 : Nat) : Int) = 2
  · rw [if_pos (by omega)] at hstep
    (repeat (first | refine v_reg ?_ | refine v_last ?_ | refine vwp_seq ?_ | refine vwp_block ?_ | refine vwp_skip ?_ | refine vwp_exit ?_ | refine vwp_ret ?_ | refine v_cond ?_ | simp only [vm, ite_true, ite_false, eq_self, reduceIte, Nat.reduceEqDiff, Option.map, g] | refine And.intro (by omega) ?_))
    refine s_call (from_spec 1 c6 (by decide)) (by simp only [vm, ite_true, ite_false, eq_self, reduceIte, Nat.reduceEqDiff, Option.map, List.map]) ?_
    rintro v c7 hc7 ⟨t7, rfl, ht7⟩
    have h1l := lim_digs two64 1
    have v1 := val_digs two64 1
    have h1n : (digs 18446744073709551616 1).length ≤ 1 := digs_len two64 (by decide)
    generalize digs 18446744073709551616 1 = one at *
    (repeat (first | refine v_reg ?_ | refine v_last ?_ | refine vwp_seq ?_ | refine vwp_block ?_ | refine vwp_skip ?_ | refine vwp_exit ?_ | refine vwp_ret ?_ | refine v_cond ?_ | simp only [vm, ite_true, ite_false, eq_self, reduceIte, Nat.reduceEqDiff, Option.map] | refine And.intro (by omega) ?_))
    refine s_call (add_spec t4 t7 _ one c7 h4l h1l (by omega) (by omega)) (by simp only [vm, ite_true, ite_false, eq_self, reduceIte, Nat.reduceEqDiff, Option.map, List.map]) ?_
    rw [v4, v1, hstep]
    have hone : bl 1 = 1 := by decide
    have hsb2 : bl (x / 2 + q / 2 + 1) ≤ 67108864 := bl_add_le hsb (by omega)
    rw [hstep] at hsb2
    rintro v c8 hc8 (⟨_, t8, rfl, ht8⟩ | ⟨hbad, _⟩)
    rotate_left
    · omega
    (repeat (first | refine v_reg ?_ | refine v_last ?_ | refine vwp_seq ?_ | refine vwp_block ?_ | refine vwp_skip ?_ | refine vwp_exit ?_ | refine vwp_ret ?_ | refine v_cond ?_ | simp only [vm, ite_true, ite_false, eq_self, reduceIte, Nat.reduceEqDiff, Option.map] | refine And.intro (by omega) ?_))
    exact ⟨t8, rfl, ht8.mono (by omega) (by omega)⟩
  · rw [if_neg (by omega), Nat.add_zero] at hstep
    rw [hstep]
    (repeat (first | refine v_reg ?_ | refine v_last ?_ | refine vwp_seq ?_ | refine vwp_block ?_ | refine vwp_skip ?_ | refine vwp_exit ?_ | refine vwp_ret ?_ | refine v_cond ?_ | simp only [vm, ite_true, ite_false, eq_self, reduceIte, Nat.reduceEqDiff, Option.map, g] | refine And.intro (by omega) ?_))
    exact ⟨t4, rfl, ht4.mono (by omega) (by omega)⟩

theorem zero_spec (t : Tok) (n c : Nat) (hn : (digs 4294967296 n).length ≤ 4398046511104) : VSpec Try.prog F.surdref01_Num_Zero c [nats t (digs 4294967296 n)] (fun r _ => r = bv (decide (n = 0))) := by
  refine spec_mk hm E.surdref01_Num_Zero B.surdref01_Num_Zero K.surdref01_Num_Zero Q.surdref01_Num_Zero (by rw [N.surdref01_Num_Zero]; simp) ?_
  unfold C.surdref01_Num_Zero R.surdref01_Num_Zero
  have hz := digs_eq_nil two32 (n := n)
  (repeat (first | refine v_reg ?_ | refine v_last ?_ | refine vwp_seq ?_ | refine vwp_block ?_ | refine vwp_skip ?_ | refine vwp_exit ?_ | refine vwp_ret ?_ | refine v_cond ?_ | simp only [vm, ite_true, ite_false, eq_self, reduceIte, Nat.reduceEqDiff, Option.map] | refine And.intro (by omega) ?_))
  by_cases g : n = 0
  · rw [hz.2 g, g]; rfl
  · have h1 : ¬ digs 4294967296 n = [] := fun e => g (hz.1 e)
    have h2 : 0 < (digs 4294967296 n).length := List.length_pos_iff.2 h1
    have h3 : decide (((digs 4294967296 n).length : Int) = 0) = decide (n = 0) := by rw [decide_eq_false (show ¬ ((digs 4294967296 n).length : Int) = 0 by omega), decide_eq_false g]
    rw [h3]
end Go.Proofs.Ytladcfeibpddeab
set_option linter.unusedSimpArgs false
set_option linter.unusedVariables false
set_option maxRecDepth 100000
set_option maxHeartbeats 8000000
namespace Go.Proofs.Ytladcfeibpddeab
open Go.VM

theorem shr1_digit {x y : Nat} (hx : x < 4294967296) (hy : y < 4294967296) : y * 4294967296 % 18446744073709551616 = y * 4294967296 ∧ (x + y * 4294967296) % 18446744073709551616 = x + y * 4294967296 ∧ (x + y * 4294967296) / 2 % 4294967296 = x / 2 ^ 1 + (y % 2 ^ 1) * 2147483648 ∧ x / 2 ^ 1 + (y % 2 ^ 1) * 2147483648 < 4294967296 := by omega

theorem shr1_spec (t : Tok) (x : List Nat) (c : Nat) (hx : Lim 4294967296 x) (hnx : x.length ≤ 1099511627776) :
    VSpec Try.prog F.surdref01_Shr c [nats t x, iv 1] (fun r c' => RefN (val 4294967296 x / 2) r) := by
  refine spec_mk hm E.surdref01_Shr B.surdref01_Shr K.surdref01_Shr Q.surdref01_Shr (by rw [N.surdref01_Shr]; simp) ?_
  unfold C.surdref01_Shr R.surdref01_Shr
  have d1 : (1 : Int) / 32 = 0 := by decide
  have d2 : (1 : Int) % 32 = 1 := by decide
  by_cases g0 : (x.length : Int) ≤ 0
  · have hx0 : x = [] := List.eq_nil_of_length_eq_zero (by omega)
    (repeat (first | refine v_reg ?_ | refine v_last ?_ | refine vwp_seq ?_ | refine vwp_block ?_ | refine vwp_skip ?_ | refine vwp_exit ?_ | refine vwp_ret ?_ | refine v_cond ?_ | simp only [vm, ite_true, ite_false, eq_self, reduceIte, Nat.reduceEqDiff, Option.map, d1, d2, g0] | refine And.intro (by omega) ?_))
    rw [hx0]
    exact ⟨.nil, rfl⟩
  (repeat (first | refine v_reg ?_ | refine v_last ?_ | refine vwp_seq ?_ | refine vwp_block ?_ | refine vwp_skip ?_ | refine vwp_exit ?_ | refine vwp_ret ?_ | refine v_cond ?_ | simp only [vm, ite_true, ite_false, eq_self, reduceIte, Nat.reduceEqDiff, Option.map, d1, d2, g0] | refine And.intro (by omega) ?_))
  refine s_mk (n := x.length) (m := x.length) (by simp only [vm, ite_true, ite_false, eq_self, reduceIte, Nat.reduceEqDiff, Option.map]; simp) (by simp only [vm, ite_true, ite_false, eq_self, reduceIte, Nat.reduceEqDiff, Option.map]; simp) (Nat.le_refl _) (by omega) ?_
  (repeat (first | refine v_reg ?_ | refine v_last ?_ | refine vwp_seq ?_ | refine vwp_block ?_ | refine vwp_skip ?_ | refine vwp_exit ?_ | refine vwp_ret ?_ | refine v_cond ?_ | simp only [vm, ite_true, ite_false, eq_self, reduceIte, Nat.reduceEqDiff, Option.map, d1, d2] | refine And.intro (by omega) ?_))
  refine v_loop (fun S => ∃ w, w.length = x.length ∧ Lim 4294967296 w ∧ val 4294967296 w = val 4294967296 x / 2 ^ 1 ∧ S.ρ 5 = .buf c 0 x.length (some x.length) 1 ∧ S.σ = supd noBlk c (nblk w) ∧ c + 1 ≤ S.c) ?_ ?_
  · refine vwp_loop (fun k S => ∃ i w, k = x.length - i ∧ i ≤ x.length ∧ w.length = i ∧ Lim 4294967296 w ∧ val 4294967296 w * 2 ^ 1 + x.getD 0 0 % 2 ^ 1 = val 4294967296 (x.take i) + 4294967296 ^ i * (x.getD i 0 % 2 ^ 1) ∧ S.ρ 0 = nats t x ∧ S.ρ 1 = iv 1 ∧ S.ρ 6 = iv 1 ∧ S.ρ 23 = iv (x.length : Int) ∧ S.ρ 24 = iv (i : Int) ∧ S.ρ 5 = .buf c 0 x.length (some x.length) 1 ∧ S.σ = supd noBlk c (nblk (w ++ List.replicate (x.length - i) 0)) ∧ c + 1 ≤ S.c) x.length ?_ ?_
    · refine ⟨0, [], by omega, by omega, ?_⟩
      simp only [vm, ite_true, ite_false, eq_self, reduceIte, Nat.reduceEqDiff, Option.map]
      (repeat' apply And.intro) <;> first | rfl | omega | assumption | exact Lim.nil | (simp [val]; done)
    rintro k ⟨ρ2, σ, c4⟩ ⟨i, w, hk, hi, hw, hlw, hinv, h0, h1, h6, h23, h24, h5, hσ, hc4⟩
    dsimp only at h0 h1 h6 h23 h24 h5 hσ hc4
    subst hσ
    by_cases g : (i : Int) < x.length
    · have hi' : i < x.length := by omega
      have hxi := hx.getD (i := i) (by decide)
      have hyi := hx.getD (i := i + 1) (by decide)
      obtain ⟨m1, m2, m3, m4⟩ := shr1_digit hxi hyi
      have e0 : (i : Int) + 0 = (i : Int) := by omega
      have e2 : (i : Int) + 1 = ((i + 1 : Nat) : Int) := by omega
      have e3 : min (1 : Int).toNat 64 = 1 := by decide
      have hlen : (w ++ List.replicate (x.length - i) 0).length = x.length := by simp; omega
      have hset : ∀ v, (w ++ List.replicate (x.length - i) 0).set i v = (w ++ [v]) ++ List.replicate (x.length - (i + 1)) 0 := fun v => by
        have := set_fill w (x.length - (i + 1)) v
        rw [hw] at this
        rw [show x.length - i = x.length - (i + 1) + 1 by omega, this]
      have key := down_step (y := x.getD (i + 1) 0) (P := 2147483648) hw hinv (by decide) rfl
      rw [← val_take (l := x) (i := i) hi'] at key
      (repeat (first | refine v_reg ?_ | refine v_last ?_ | refine vwp_seq ?_ | refine vwp_block ?_ | refine vwp_skip ?_ | refine vwp_exit ?_ | refine vwp_ret ?_ | refine v_cond ?_ | simp only [vm, ite_true, ite_false, eq_self, reduceIte, Nat.reduceEqDiff, Option.map, h0, h1, h6, h23, h24, h5, g, d1, d2, e0, e2] | refine And.intro (by omega) ?_))
      refine s_call (at_spec t x (i + 1) c4 (by omega)) (by simp only [vm, ite_true, ite_false, eq_self, reduceIte, Nat.reduceEqDiff, Option.map, List.map, h0]) ?_
      rintro v c5 hc5 rfl
      (repeat (first | refine v_reg ?_ | refine v_last ?_ | refine vwp_seq ?_ | refine vwp_block ?_ | refine vwp_skip ?_ | refine vwp_exit ?_ | refine vwp_ret ?_ | refine v_cond ?_ | simp only [vm, ite_true, ite_false, eq_self, reduceIte, Nat.reduceEqDiff, Option.map, h0, h1, h6, h23, h24, h5, e2, e3, m1, m2, Nat.pow_one, hlen, hset] | refine And.intro (by omega) ?_))
      simp only [Nat.pow_one] at key m3 m4
      rw [m3]
      refine ⟨x.length - (i + 1), by omega, i + 1, w ++ [x.getD i 0 / 2 + x.getD (i + 1) 0 % 2 * 2147483648], ?_⟩
      (repeat' apply And.intro) <;> first | rfl | exact key | exact lim_snoc hlw m4 | (simp [hw]; done) | omega | assumption
    · have hi' : i = x.length := by omega
      subst hi'
      (repeat (first | refine v_reg ?_ | refine v_last ?_ | refine vwp_seq ?_ | refine vwp_block ?_ | refine vwp_skip ?_ | refine vwp_exit ?_ | refine vwp_ret ?_ | refine v_cond ?_ | simp only [vm, ite_true, ite_false, eq_self, reduceIte, Nat.reduceEqDiff, Option.map, h0, h1, h6, h23, h24, h5, g] | refine And.intro (by omega) ?_))
      rw [List.take_length, getD_ge (Nat.le_refl _), Nat.zero_mod, Nat.mul_zero, Nat.add_zero] at hinv
      refine ⟨w, ?_⟩
      have e0 : w ++ List.replicate (x.length - x.length) 0 = w := by simp
      rw [e0]
      have hv : val 4294967296 w = val 4294967296 x / 2 ^ 1 := (div_mod_of hinv (Nat.mod_lt _ (Nat.two_pow_pos 1))).1.symm
      (repeat' apply And.intro) <;> first | rfl | omega | assumption | exact hv
  rintro ⟨ρ3, σ, c5⟩ ⟨w, hw, hlw, hvw, h5, hσ, hc5⟩
  dsimp only at h5 hσ hc5
  subst hσ
  refine v_freeze 5 (t := c) (off := 0) (n := x.length) (cap := some x.length) (l := w) (by simp only [vm, ite_true, ite_false, eq_self, reduceIte, Nat.reduceEqDiff, Option.map, h5]) (by simp only [vm, ite_true, ite_false, eq_self, reduceIte, Nat.reduceEqDiff, Option.map]) (by omega) (by omega) ?_
  rw [List.drop_zero, show w.take x.length = w from List.take_of_length_le (by omega)]
  (repeat (first | refine v_reg ?_ | refine v_last ?_ | refine vwp_seq ?_ | refine vwp_block ?_ | refine vwp_skip ?_ | refine vwp_exit ?_ | refine vwp_ret ?_ | refine v_cond ?_ | simp only [vm, ite_true, ite_false, eq_self, reduceIte, Nat.reduceEqDiff, Option.map] | refine And.intro (by omega) ?_))
  refine s_call (norm32_spec (.id c) w c5 hlw (by omega)) (by simp only [vm, ite_true, ite_false, eq_self, reduceIte, Nat.reduceEqDiff, Option.map, List.map]) ?_
  rintro v c6 hc6 rfl
  rw [hvw, Nat.pow_one]
  (repeat (first | refine v_reg ?_ | refine v_last ?_ | refine vwp_seq ?_ | refine vwp_block ?_ | refine vwp_skip ?_ | refine vwp_exit ?_ | refine vwp_ret ?_ | refine v_cond ?_ | simp only [vm, ite_true, ite_false, eq_self, reduceIte, Nat.reduceEqDiff, Option.map] | refine And.intro (by omega) ?_))
  exact ⟨_, rfl⟩

theorem step04_spec (t u : Tok) (A0 X0 c : Nat) (hA : bl A0 ≤ 67108862) (hX : bl X0 ≤ 67108862) :
    VSpec Try.prog F.surdref04_Step c [nats t (digs 4294967296 A0), nats u (digs 4294967296 X0)] (fun r c' => (X0 = 0 → r = .tup [nil1, iv 30]) ∧ (0 < X0 → ∃ tk, r = .tup [nats tk (digs 4294967296 ((X0 + A0 / X0) / 2)), iv 0])) := by
  refine spec_mk hm E.surdref04_Step B.surdref04_Step K.surdref04_Step Q.surdref04_Step (by rw [N.surdref04_Step]; simp) ?_
  unfold C.surdref04_Step R.surdref04_Step
  (repeat (first | refine v_reg ?_ | refine v_last ?_ | refine vwp_seq ?_ | refine vwp_block ?_ | refine vwp_skip ?_ | refine vwp_exit ?_ | refine vwp_ret ?_ | refine v_cond ?_ | simp only [vm, ite_true, ite_false, eq_self, reduceIte, Nat.reduceEqDiff, Option.map] | refine And.intro (by omega) ?_))
  refine s_call (zero_spec u X0 c (Nat.le_trans (len32_bl (k := 2097152) (by omega)) (by decide))) (by simp only [vm, ite_true, ite_false, eq_self, reduceIte, Nat.reduceEqDiff, Option.map, List.map]) ?_
  rintro v c1 hc1 rfl
  by_cases g : X0 = 0
  · (repeat (first | refine v_reg ?_ | refine v_last ?_ | refine vwp_seq ?_ | refine vwp_block ?_ | refine vwp_skip ?_ | refine vwp_exit ?_ | refine vwp_ret ?_ | refine v_cond ?_ | simp only [vm, ite_true, ite_false, eq_self, reduceIte, Nat.reduceEqDiff, Option.map, g] | refine And.intro (by omega) ?_))
    exact ⟨fun h => h, fun h => absurd h (by decide)⟩
  have hpos : 0 < X0 := by omega
  have hqA : A0 / X0 ≤ A0 := Nat.div_le_self _ _
  have hqb := bl_mono hqA
  have hsb : bl (X0 + A0 / X0) ≤ 67108863 := bl_add_le (k := 67108862) hX (by omega)
  have hhb : bl ((X0 + A0 / X0) / 2) ≤ 67108863 := Nat.le_trans (bl_mono (Nat.div_le_self _ _)) hsb
  have h0 : bl 0 ≤ 67108864 := by decide
  (repeat (first | refine v_reg ?_ | refine v_last ?_ | refine vwp_seq ?_ | refine vwp_block ?_ | refine vwp_skip ?_ | refine vwp_exit ?_ | refine vwp_ret ?_ | refine v_cond ?_ | simp only [vm, ite_true, ite_false, eq_self, reduceIte, Nat.reduceEqDiff, Option.map, g] | refine And.intro (by omega) ?_))
  refine s_call (div32_spec t u A0 X0 c1 (by omega) (by omega) hpos) (by simp only [vm, ite_true, ite_false, eq_self, reduceIte, Nat.reduceEqDiff, Option.map, List.map]) ?_
  rintro v c2 hc2 ⟨t1, t2, rfl⟩
  (repeat (first | refine v_reg ?_ | refine v_last ?_ | refine vwp_seq ?_ | refine vwp_block ?_ | refine vwp_skip ?_ | refine vwp_exit ?_ | refine vwp_ret ?_ | refine v_cond ?_ | simp only [vm, ite_true, ite_false, eq_self, reduceIte, Nat.reduceEqDiff, Option.map] | refine And.intro (by omega) ?_))
  refine s_call (addR u t1 X0 (A0 / X0) c2 (by omega) (by omega)) (by simp only [vm, ite_true, ite_false, eq_self, reduceIte, Nat.reduceEqDiff, Option.map, List.map]) ?_
  rintro v c3 hc3 ⟨j3, rfl, _, _⟩
  (repeat (first | refine v_reg ?_ | refine v_last ?_ | refine vwp_seq ?_ | refine vwp_block ?_ | refine vwp_skip ?_ | refine vwp_exit ?_ | refine vwp_ret ?_ | refine v_cond ?_ | simp only [vm, ite_true, ite_false, eq_self, reduceIte, Nat.reduceEqDiff, Option.map] | refine And.intro (by omega) ?_))
  refine s_call (shr1_spec (.id j3) (digs 4294967296 (X0 + A0 / X0)) c3 (lim_digs two32 _) (Nat.le_trans (len32_bl (k := 2097152) (by omega)) (by decide))) (by simp only [vm, ite_true, ite_false, eq_self, reduceIte, Nat.reduceEqDiff, Option.map, List.map]) ?_
  rw [val_digs two32]
  rintro v c4 hc4 ⟨tk, rfl⟩
  (repeat (first | refine v_reg ?_ | refine v_last ?_ | refine vwp_seq ?_ | refine vwp_block ?_ | refine vwp_skip ?_ | refine vwp_exit ?_ | refine vwp_ret ?_ | refine v_cond ?_ | simp only [vm, ite_true, ite_false, eq_self, reduceIte, Nat.reduceEqDiff, Option.map] | refine And.intro (by omega) ?_))
  refine s_call (told04_spec tk .nil ((X0 + A0 / X0) / 2) 0 c4 (by omega) h0) (by simp only [vm, ite_true, ite_false, eq_self, reduceIte, Nat.reduceEqDiff, Option.map, List.map]; rfl) ?_
  rintro v c5 hc5 rfl
  (repeat (first | refine v_reg ?_ | refine v_last ?_ | refine vwp_seq ?_ | refine vwp_block ?_ | refine vwp_skip ?_ | refine vwp_exit ?_ | refine vwp_ret ?_ | refine v_cond ?_ | simp only [vm, ite_true, ite_false, eq_self, reduceIte, Nat.reduceEqDiff, Option.map, g] | refine And.intro (by omega) ?_))
  exact ⟨fun h => h.elim, fun _ => ⟨tk, rfl⟩⟩

theorem step_zero (t u : Tok) (a b : List Nat) (c : Nat) (ha : Lim 18446744073709551616 a) (hb : Lim 18446744073709551616 b) (hna : a.length ≤ 1099511627776) (hnb : b.length ≤ 1099511627776) (h0 : val 18446744073709551616 b = 0) :
    VSpec Try.prog F.roots_Step c [nats t a, nats u b] (fun r c' => r = .tup [nil1, iv 30]) := by
  refine spec_mk hm E.roots_Step B.roots_Step K.roots_Step Q.roots_Step (by rw [N.roots_Step]; simp) ?_
  unfold C.roots_Step R.roots_Step
  (repeat (first | refine v_reg ?_ | refine v_last ?_ | refine vwp_seq ?_ | refine vwp_block ?_ | refine vwp_skip ?_ | refine vwp_exit ?_ | refine vwp_ret ?_ | refine v_cond ?_ | simp only [vm, ite_true, ite_false, eq_self, reduceIte, Nat.reduceEqDiff, Option.map] | refine And.intro (by omega) ?_))
  refine s_call (quo_spec t u a b c ha hb hna hnb) (by simp only [vm, ite_true, ite_false, eq_self, reduceIte, Nat.reduceEqDiff, Option.map, List.map]) ?_
  rintro v c1 hc1 ⟨h, _⟩
  obtain rfl := h h0
  (repeat (first | refine v_reg ?_ | refine v_last ?_ | refine vwp_seq ?_ | refine vwp_block ?_ | refine vwp_skip ?_ | refine vwp_exit ?_ | refine vwp_ret ?_ | refine v_cond ?_ | simp only [vm, ite_true, ite_false, eq_self, reduceIte, Nat.reduceEqDiff, Option.map] | refine And.intro (by omega) ?_))
  exact hc1
end Go.Proofs.Ytladcfeibpddeab
set_option linter.unusedSimpArgs false
set_option linter.unusedVariables false
set_option maxRecDepth 100000
set_option maxHeartbeats 8000000
namespace Go.Proofs.Ytladcfeibpddeab
open Go.VM

theorem step_own (t u : Tok) (a b : List Nat) (c : Nat) (ha : Lim 18446744073709551616 a) (hb : Lim 18446744073709551616 b) (hna : a.length ≤ 1099511627776) (hnb : b.length ≤ 1099511627776) (hA : bl (val 18446744073709551616 a) ≤ 67108862) (hX : bl (val 18446744073709551616 b) ≤ 67108862) (hpos : 0 < val 18446744073709551616 b) :
    VSpec Try.prog F.roots_Step c [nats t a, nats u b] (fun r c' => ∃ tk, r = .tup [nats tk (digs 18446744073709551616 ((val 18446744073709551616 b + val 18446744073709551616 a / val 18446744073709551616 b) / 2)), iv 0] ∧ Row1 c c' tk (digs 18446744073709551616 ((val 18446744073709551616 b + val 18446744073709551616 a / val 18446744073709551616 b) / 2))) := by
  refine VSpec.clean (step_spec t u a b c ha hb hna hnb hA hX hpos) ?_
  rintro r c' hc ⟨tk, rfl, h1⟩
  rcases tk_nil_or (digs 18446744073709551616 ((val 18446744073709551616 b + val 18446744073709551616 a / val 18446744073709551616 b) / 2)) h1 with g | ⟨rfl, g⟩
  · exact .inl ⟨tk, rfl, g⟩
  · exact .inr ⟨void_tup (by simp) g, _, c + 1, by omega, .id c, rfl, .inr ⟨c, rfl, by omega, by omega⟩⟩

theorem bl_of_len {a : List Nat} (ha : Lim 18446744073709551616 a) (hna : a.length ≤ 1048575) : bl (val 18446744073709551616 a) ≤ 67108862 := by
  have h1 := val_lt ha
  rw [pow64] at h1
  exact Nat.le_trans (bl_le h1) (by omega)

theorem steps_law (t u : Tok) (a b : List Nat) (c : Nat) (ht : Kn c t) (hu : Kn c u) (ha : Lim 18446744073709551616 a) (hb : Lim 18446744073709551616 b) (hna : a.length ≤ 1048575) (hnb : b.length ≤ 1048575) :
    VSpec Try.prog F.surdlaw04_RootSteps c [nats t a, nats u b] (fun r _ => r = bv true) := by
  refine spec_mk hm E.surdlaw04_RootSteps B.surdlaw04_RootSteps K.surdlaw04_RootSteps Q.surdlaw04_RootSteps (by rw [N.surdlaw04_RootSteps]; simp) ?_
  unfold C.surdlaw04_RootSteps R.surdlaw04_RootSteps
  have hbA := bl_of_len ha hna
  have hbX := bl_of_len hb hnb
  (repeat (first | refine v_reg ?_ | refine v_last ?_ | refine vwp_seq ?_ | refine vwp_block ?_ | refine vwp_skip ?_ | refine vwp_exit ?_ | refine vwp_ret ?_ | refine v_cond ?_ | simp only [vm, ite_true, ite_false, eq_self, reduceIte, Nat.reduceEqDiff, Option.map] | refine And.intro (by omega) ?_))
  refine s_call (lend_spec t a c ha (by omega)) (by simp only [vm, ite_true, ite_false, eq_self, reduceIte, Nat.reduceEqDiff, Option.map, List.map]) ?_
  rintro v c1 hc1 ⟨iw, rfl, hiw, hiw2⟩
  (repeat (first | refine v_reg ?_ | refine v_last ?_ | refine vwp_seq ?_ | refine vwp_block ?_ | refine vwp_skip ?_ | refine vwp_exit ?_ | refine vwp_ret ?_ | refine v_cond ?_ | simp only [vm, ite_true, ite_false, eq_self, reduceIte, Nat.reduceEqDiff, Option.map] | refine And.intro (by omega) ?_))
  refine s_call (lend_spec u b c1 hb (by omega)) (by simp only [vm, ite_true, ite_false, eq_self, reduceIte, Nat.reduceEqDiff, Option.map, List.map]) ?_
  rintro v c2 hc2 ⟨ix, rfl, hix, hix2⟩
  (repeat (first | refine v_reg ?_ | refine v_last ?_ | refine vwp_seq ?_ | refine vwp_block ?_ | refine vwp_skip ?_ | refine vwp_exit ?_ | refine vwp_ret ?_ | refine v_cond ?_ | simp only [vm, ite_true, ite_false, eq_self, reduceIte, Nat.reduceEqDiff, Option.map] | refine And.intro (by omega) ?_))
  refine s_call (of_spec t a c2 ha (by omega)) (by simp only [vm, ite_true, ite_false, eq_self, reduceIte, Nat.reduceEqDiff, Option.map, List.map]) ?_
  rintro v c3 hc3 ⟨i3, rfl, _, _⟩
  (repeat (first | refine v_reg ?_ | refine v_last ?_ | refine vwp_seq ?_ | refine vwp_block ?_ | refine vwp_skip ?_ | refine vwp_exit ?_ | refine vwp_ret ?_ | refine v_cond ?_ | simp only [vm, ite_true, ite_false, eq_self, reduceIte, Nat.reduceEqDiff, Option.map] | refine And.intro (by omega) ?_))
  refine s_call (of_spec u b c3 hb (by omega)) (by simp only [vm, ite_true, ite_false, eq_self, reduceIte, Nat.reduceEqDiff, Option.map, List.map]) ?_
  rintro v c4 hc4 ⟨i4, rfl, _, _⟩
  (repeat (first | refine v_reg ?_ | refine v_last ?_ | refine vwp_seq ?_ | refine vwp_block ?_ | refine vwp_skip ?_ | refine vwp_exit ?_ | refine vwp_ret ?_ | refine v_cond ?_ | simp only [vm, ite_true, ite_false, eq_self, reduceIte, Nat.reduceEqDiff, Option.map] | refine And.intro (by omega) ?_))
  refine s_call (step04_spec (.id i3) (.id i4) (val 18446744073709551616 a) (val 18446744073709551616 b) c4 hbA hbX) (by simp only [vm, ite_true, ite_false, eq_self, reduceIte, Nat.reduceEqDiff, Option.map, List.map]) ?_
  rintro v c5 hc5 ⟨w1, w2⟩
  by_cases g : val 18446744073709551616 b = 0
  · obtain rfl := w1 g
    (repeat (first | refine v_reg ?_ | refine v_last ?_ | refine vwp_seq ?_ | refine vwp_block ?_ | refine vwp_skip ?_ | refine vwp_exit ?_ | refine vwp_ret ?_ | refine v_cond ?_ | simp only [vm, ite_true, ite_false, eq_self, reduceIte, Nat.reduceEqDiff, Option.map] | refine And.intro (by omega) ?_))
    refine s_call (step_zero (.sub iw) (.sub ix) a b c5 ha hb (by omega) (by omega) g) (by simp only [vm, ite_true, ite_false, eq_self, reduceIte, Nat.reduceEqDiff, Option.map, List.map]) ?_
    rintro v c6 hc6 rfl
    (repeat (first | refine v_reg ?_ | refine v_last ?_ | refine vwp_seq ?_ | refine vwp_block ?_ | refine vwp_skip ?_ | refine vwp_exit ?_ | refine vwp_ret ?_ | refine v_cond ?_ | simp only [vm, ite_true, ite_false, eq_self, reduceIte, Nat.reduceEqDiff, Option.map] | refine And.intro (by omega) ?_))
    refine s_call (alike_err 30 .nil [] c6 (by decide)) (by simp only [vm, ite_true, ite_false, eq_self, reduceIte, Nat.reduceEqDiff, Option.map, List.map]; rfl) ?_
    rintro v c7 hc7 rfl
    (repeat (first | refine v_reg ?_ | refine v_last ?_ | refine vwp_seq ?_ | refine vwp_block ?_ | refine vwp_skip ?_ | refine vwp_exit ?_ | refine vwp_ret ?_ | refine v_cond ?_ | simp only [vm, ite_true, ite_false, eq_self, reduceIte, Nat.reduceEqDiff, Option.map] | refine And.intro (by omega) ?_))
    have hp : ∀ p ∈ ([(Tok.nil, [])] : List (Tok × List Nat)), Row1 c7 c7 p.1 p.2 ∧ p.2.length ≤ 4398046511104 := fun p hp => by simp at hp; subst hp; exact ⟨.inl ⟨rfl, rfl⟩, by decide⟩
    have kw : Kn c7 (.id iw) := .inr ⟨iw, .inl rfl, by omega⟩
    have kx : Kn c7 (.id ix) := .inr ⟨ix, .inl rfl, by omega⟩
    have kt : Kn c7 t := ht.mono (by omega)
    have ku : Kn c7 u := hu.mono (by omega)
    refine s_rows1 (p := (.nil, [])) (by simp only [vm, ite_true, ite_false, eq_self, reduceIte, Nat.reduceEqDiff, Option.map]; rfl) ?_
    simp only [vm, ite_true, ite_false, eq_self, reduceIte, Nat.reduceEqDiff, Option.map]
    refine s_own (lo := c7) (tL := c7) (ps := [(.nil, [])]) own_spec (by simp only [vm, ite_true, ite_false, eq_self, reduceIte, Nat.reduceEqDiff, Option.map]) (by omega) (by decide) (by decide) hp (Nat.le_refl _) (by simp) ?_
    (repeat (first | refine v_reg ?_ | refine v_last ?_ | refine vwp_seq ?_ | refine vwp_block ?_ | refine vwp_skip ?_ | refine vwp_exit ?_ | refine vwp_ret ?_ | refine v_cond ?_ | simp only [vm, ite_true, ite_false, eq_self, reduceIte, Nat.reduceEqDiff, Option.map, killed_own, thawL_lit, thawL_kn hp (Nat.le_refl _) kw, thawL_kn hp (Nat.le_refl _) kt, thawL_kn hp (Nat.le_refl _) kx, thawL_kn hp (Nat.le_refl _) ku] | refine And.intro (by omega) ?_))
    refine s_call (kept_spec (.id iw) t a (c7 + 1) (by omega)) (by simp only [vm, ite_true, ite_false, eq_self, reduceIte, Nat.reduceEqDiff, Option.map, List.map]) ?_
    rintro v c8 hc8 rfl
    (repeat (first | refine v_reg ?_ | refine v_last ?_ | refine vwp_seq ?_ | refine vwp_block ?_ | refine vwp_skip ?_ | refine vwp_exit ?_ | refine vwp_ret ?_ | refine v_cond ?_ | simp only [vm, ite_true, ite_false, eq_self, reduceIte, Nat.reduceEqDiff, Option.map, killed_own, thawL_lit, thawL_kn hp (Nat.le_refl _) kx, thawL_kn hp (Nat.le_refl _) ku] | refine And.intro (by omega) ?_))
    refine s_call (kept_spec (.id ix) u b c8 (by omega)) (by simp only [vm, ite_true, ite_false, eq_self, reduceIte, Nat.reduceEqDiff, Option.map, List.map]) ?_
    rintro v c9 hc9 rfl
    (repeat (first | refine v_reg ?_ | refine v_last ?_ | refine vwp_seq ?_ | refine vwp_block ?_ | refine vwp_skip ?_ | refine vwp_exit ?_ | refine vwp_ret ?_ | refine v_cond ?_ | simp only [vm, ite_true, ite_false, eq_self, reduceIte, Nat.reduceEqDiff, Option.map] | refine And.intro (by omega) ?_))
    refine s_call (awake_spec c9) (by simp only [vm, ite_true, ite_false, eq_self, reduceIte, Nat.reduceEqDiff, Option.map, List.map]) ?_
    rintro v c10 hc10 rfl
    (repeat (first | refine v_reg ?_ | refine v_last ?_ | refine vwp_seq ?_ | refine vwp_block ?_ | refine vwp_skip ?_ | refine vwp_exit ?_ | refine vwp_ret ?_ | refine v_cond ?_ | simp only [vm, ite_true, ite_false, eq_self, reduceIte, Nat.reduceEqDiff, Option.map] | refine And.intro (by omega) ?_))
    omega
  obtain ⟨t1, rfl⟩ := w2 (by omega)
  (repeat (first | refine v_reg ?_ | refine v_last ?_ | refine vwp_seq ?_ | refine vwp_block ?_ | refine vwp_skip ?_ | refine vwp_exit ?_ | refine vwp_ret ?_ | refine v_cond ?_ | simp only [vm, ite_true, ite_false, eq_self, reduceIte, Nat.reduceEqDiff, Option.map] | refine And.intro (by omega) ?_))
  refine s_call (step_own (.sub iw) (.sub ix) a b c5 ha hb (by omega) (by omega) hbA hbX (by omega)) (by simp only [vm, ite_true, ite_false, eq_self, reduceIte, Nat.reduceEqDiff, Option.map, List.map]) ?_
  rintro v c6 hc6 ⟨t2, rfl, h2⟩
  obtain ⟨y, hy⟩ : ∃ y, y = (val 18446744073709551616 b + val 18446744073709551616 a / val 18446744073709551616 b) / 2 := ⟨_, rfl⟩
  have hyb : bl y ≤ 67108864 := by
    rw [hy]
    refine Nat.le_trans (bl_mono (Nat.div_le_self _ _)) ?_
    exact Nat.le_trans (bl_add_le (k := 67108862) hbX (Nat.le_trans (bl_mono (Nat.div_le_self _ _)) hbA)) (by decide)
  rw [← hy] at h2 ⊢
  have l1 : (digs 18446744073709551616 y).length ≤ 4398046511104 := Nat.le_trans (digs_len_bl (k := 1048576) (by omega)) (by decide)
  (repeat (first | refine v_reg ?_ | refine v_last ?_ | refine vwp_seq ?_ | refine vwp_block ?_ | refine vwp_skip ?_ | refine vwp_exit ?_ | refine vwp_ret ?_ | refine v_cond ?_ | simp only [vm, ite_true, ite_false, eq_self, reduceIte, Nat.reduceEqDiff, Option.map] | refine And.intro (by omega) ?_))
  refine s_call (alike_ok t2 t1 y c6 hyb) (by simp only [vm, ite_true, ite_false, eq_self, reduceIte, Nat.reduceEqDiff, Option.map, List.map]) ?_
  rintro v c7 hc7 rfl
  (repeat (first | refine v_reg ?_ | refine v_last ?_ | refine vwp_seq ?_ | refine vwp_block ?_ | refine vwp_skip ?_ | refine vwp_exit ?_ | refine vwp_ret ?_ | refine v_cond ?_ | simp only [vm, ite_true, ite_false, eq_self, reduceIte, Nat.reduceEqDiff, Option.map] | refine And.intro (by omega) ?_))
  have hp : ∀ p ∈ [(t2, digs 18446744073709551616 y)], Row1 c5 c7 p.1 p.2 ∧ p.2.length ≤ 4398046511104 := fun p hp => by
    simp only [List.mem_cons, List.not_mem_nil, or_false] at hp
    subst hp
    exact ⟨h2.mono (by omega) (by omega), l1⟩
  have kw : Kn c5 (.id iw) := .inr ⟨iw, .inl rfl, by omega⟩
  have kx : Kn c5 (.id ix) := .inr ⟨ix, .inl rfl, by omega⟩
  have kt : Kn c5 t := ht.mono (by omega)
  have ku : Kn c5 u := hu.mono (by omega)
  have hle : c5 ≤ c7 := by omega
  refine s_rows1 (p := (t2, digs 18446744073709551616 y)) (by simp only [vm, ite_true, ite_false, eq_self, reduceIte, Nat.reduceEqDiff, Option.map]) ?_
  simp only [vm, ite_true, ite_false, eq_self, reduceIte, Nat.reduceEqDiff, Option.map]
  refine s_own (lo := c5) (tL := c7) (ps := [(t2, digs 18446744073709551616 y)]) own_spec (by simp only [vm, ite_true, ite_false, eq_self, reduceIte, Nat.reduceEqDiff, Option.map]) (by omega) (by simp) (by simp) hp hle (by simp) ?_
  (repeat (first | refine v_reg ?_ | refine v_last ?_ | refine vwp_seq ?_ | refine vwp_block ?_ | refine vwp_skip ?_ | refine vwp_exit ?_ | refine vwp_ret ?_ | refine v_cond ?_ | simp only [vm, ite_true, ite_false, eq_self, reduceIte, Nat.reduceEqDiff, Option.map, killed_own, thawL_lit, thawL_kn hp hle kw, thawL_kn hp hle kt, thawL_kn hp hle kx, thawL_kn hp hle ku] | refine And.intro (by omega) ?_))
  refine s_call (kept_spec (.id iw) t a (c7 + 1) (by omega)) (by simp only [vm, ite_true, ite_false, eq_self, reduceIte, Nat.reduceEqDiff, Option.map, List.map]) ?_
  rintro v c8 hc8 rfl
  (repeat (first | refine v_reg ?_ | refine v_last ?_ | refine vwp_seq ?_ | refine vwp_block ?_ | refine vwp_skip ?_ | refine vwp_exit ?_ | refine vwp_ret ?_ | refine v_cond ?_ | simp only [vm, ite_true, ite_false, eq_self, reduceIte, Nat.reduceEqDiff, Option.map, killed_own, thawL_lit, thawL_kn hp hle kx, thawL_kn hp hle ku] | refine And.intro (by omega) ?_))
  refine s_call (kept_spec (.id ix) u b c8 (by omega)) (by simp only [vm, ite_true, ite_false, eq_self, reduceIte, Nat.reduceEqDiff, Option.map, List.map]) ?_
  rintro v c9 hc9 rfl
  (repeat (first | refine v_reg ?_ | refine v_last ?_ | refine vwp_seq ?_ | refine vwp_block ?_ | refine vwp_skip ?_ | refine vwp_exit ?_ | refine vwp_ret ?_ | refine v_cond ?_ | simp only [vm, ite_true, ite_false, eq_self, reduceIte, Nat.reduceEqDiff, Option.map] | refine And.intro (by omega) ?_))
  refine s_call (awake_spec c9) (by simp only [vm, ite_true, ite_false, eq_self, reduceIte, Nat.reduceEqDiff, Option.map, List.map]) ?_
  rintro v c10 hc10 rfl
  (repeat (first | refine v_reg ?_ | refine v_last ?_ | refine vwp_seq ?_ | refine vwp_block ?_ | refine vwp_skip ?_ | refine vwp_exit ?_ | refine vwp_ret ?_ | refine v_cond ?_ | simp only [vm, ite_true, ite_false, eq_self, reduceIte, Nat.reduceEqDiff, Option.map] | refine And.intro (by omega) ?_))
  omega
end Go.Proofs.Ytladcfeibpddeab
set_option linter.unusedVariables false
set_option maxRecDepth 100000
namespace Go.Proofs.Ytladcfeibpddeab
open Go.VM Go.ChangeShapes Go.WideShapes Go.ChangeAt Go.RowKit

theorem own : ownKnob Try.prog.godebug = none := by kernel_rfl
theorem cellsOfE : Try.prog.cellsOf 54 = 1 := by kernel_rfl
theorem rep_ints {W : World} {xs : List V} {vs : Array Value} {l : List (V × Value)} {μ : Nat → Nat} {n : Nat} (hx : xs = l.map Prod.fst) (hv : vs = (l.map Prod.snd).toArray) (h : ∀ p ∈ l, Rep W (fun b => b < W.heap.size) μ n p.1 p.2) :
    ∀ (j : Nat) (x : V) (v : Value), xs[j]? = some x → vs[j]? = some v → Rep W (fun b => b < W.heap.size) μ n x v := by
  intro j x v h1 h2
  subst hx hv
  rw [List.getElem?_map] at h1
  obtain ⟨p, hp, rfl⟩ := Option.map_eq_some_iff.1 h1
  have h2' : (l.map Prod.snd)[j]? = some v := by simpa using h2
  rw [List.getElem?_map, hp] at h2'
  cases h2'
  exact h p (List.mem_of_getElem? hp)
theorem wf_i64 {n : Int} (h : (Lit.int .i64 n).wf = true) : -9223372036854775808 ≤ n ∧ n < 9223372036854775808 := by
  simp [Lit.wf, IntKind.min, IntKind.max, IntKind.signed, IntKind.bits] at h
  omega

theorem row_contract (H : Type) (enc : TypeId × Value → H) (W : World) (base : Nat) (args : Array Value) (ds gs : List (DataW H)) (before : List MemPlace)
    (hval : ∀ (j : Nat) t v, Try.f7.params[j]? = some t → args[j]? = some v → Value.okWide Try.prog W .any base t v)
    (hW : DataW.Whole enc Try.prog Try.f7.params.toList Rows.rootStepsSpec.vars false W args.toList ds gs before) (hk : Rows.uptoSmall H (ds ++ gs) = true) :
    Calls Try.prog 7 args W fun e W' => ∃ v, e = .returned v ∧ Rows.rootStepsSpec.post enc Try.prog Try.f7 false true false false W args v W' := by
  have hW' := hW
  obtain ⟨p, q, hA0, hV, rfl, hfz, hnd⟩ := hW
  have hA : DataW.TrodAll enc Try.prog W 0 (fun _ => true) true Try.f7.params.toList args.toList ds p := hA0
  rw [Try.params7] at hA hval
  obtain ⟨v0, vs0, d0, ds0, p0, q0, hargs, rfl, rfl, h0, r0⟩ := trodAll_cons hA
  obtain ⟨v1, vs1, d1, ds1, p1, q1, hargs1, rfl, rfl, h1, r1⟩ := trodAll_cons r0
  obtain ⟨rfl, rfl, rfl⟩ := trodAll_nil r1
  obtain rfl : args = #[v0, v1] := by cases args; simp_all
  obtain ⟨rfl, rfl⟩ := trodVars_none hV
  clear hA0
  have hv0 := hval 0 22 v0 rfl rfl
  have hv1 := hval 1 22 v1 rfl rfl
  simp only [List.append_nil] at hW' hk
  obtain ⟨l, hl, hrep, hbulk, hshut⟩ := slice_arg Try.underlying22 Try.underlying54 cellsOfE hv0 h0 (fun p hp => hW'.lt p (List.mem_append_left _ hp))
  obtain ⟨l2, hl2, hrep2, hbulk2, hshut2⟩ := slice_arg Try.underlying22 Try.underlying54 cellsOfE hv1 h1 (fun p hp => hW'.lt p (List.mem_append_right _ hp))
  have hb : Rows.uptoBulkAll [d0, d1] ≤ 1048576 := of_decide_eq_true hk
  simp only [Rows.uptoBulkAll] at hb
  have hp0 := bulk_pos d0
  have hp1 := bulk_pos d1
  obtain ⟨n9, μ9, t9, u9, ht9, hu9, hμ9, hrep, hrep2⟩ := told_two hrep hrep2
  obtain ⟨r, c9, _, hc9, hr9⟩ := steps_law t9 u9 l l2 n9 ht9 hu9 hl hl2 (by omega) (by omega)
  subst hr9
  refine (calls_sameT hc9 W μ9 hμ9 #[v0, v1] rfl (rep_ints (l := [(nats t9 l, v0), (nats u9 l2, v1)]) rfl rfl (fun p hp => ?_)) ⟨_, rfl⟩).mono fun e W' ⟨v, he, hv, hs⟩ => ?_
  · simp only [List.mem_cons, List.not_mem_nil, or_false] at hp
    rcases hp with rfl | rfl
    · exact hrep
    · exact hrep2
  subst he
  cases hv
  exact ⟨_, rfl, post_kept (pa := p0 ++ p1) (pv := []) hW' hs (fun _ _ _ => trodAll_cons_mk (shut_bool Try.underlying4 _) trodAll_mk0)
    (fun sp hsp => by
      have t0 := trodAll_cons_mk (hshut W' hs sp (fun p hp => hsp p (List.mem_append_left _ hp))) (trodAll_cons_mk (hshut2 W' hs sp (fun p hp => hsp p (List.mem_append_right _ hp))) trodAll_mk0)
      simp only [List.append_nil] at t0
      rw [Try.params7]
      exact t0) (fun _ _ => rfl) (by simp)
    (ok_one (by kernel_rfl) rfl (okWide_bool_mk Try.underlying4 _))⟩

theorem row_lifted (os : Os) (started : os.Started) (H : Type) (enc : TypeId × Value → H) (F : Stop.Interp) :
    ReturnsInHanded {} Try.checked os 7 .any ((Rows.OpenSpec.upto Rows.rootStepsSpec).pre6 enc Try.prog Try.f7 Rows.rootStepsUptoRow.domain false) (((Rows.OpenSpec.upto Rows.rootStepsSpec).at F).post enc Try.prog Try.f7 false true false false) := by
  refine returnsInHanded_of_cond (C := Try.checked) (s := Rows.OpenSpec.upto Rows.rootStepsSpec) (k := Rows.uptoSmall) rfl own started (by kernel_rfl) Try.func7
    (OpenSpec.witness (enc := enc) (C := Try.checked) (s := Rows.OpenSpec.upto Rows.rootStepsSpec) (k := Rows.uptoSmall) rfl false ⟨#[], #[.slice none 0 0, .slice none 0 0], []⟩ 8 (by kernel_rfl) (by kernel_rfl) (by kernel_rfl)
      (x := ([.nil, .nil], [], [])) (by kernel_rfl) rfl (by kernel_rfl)) ?_
  intro W base args ds gs before hval hW _ hk _
  exact row_contract H enc W base args ds gs before hval hW hk

theorem row_holds : Rows.RootStepsUptoSaid :=
  OpenClaim.holds_of_cond 7 Try.f7 rfl rfl rfl rfl rfl rfl rfl ⟨rfl, rfl, rfl, rfl, rfl⟩ rfl rfl rfl rfl rfl (by kernel_rfl) Try.func7 (by kernel_rfl)
    (of_decide_eq_true (by kernel_rfl)) (by unfold Func.isWrapper; first | (rw [if_pos (by decide +kernel)]; kernel_rfl) | (rw [if_neg (by decide +kernel)]; exact ⟨rfl, rfl⟩))
    (fun os started H enc _ F => row_lifted os started H enc F)
#print axioms row_holds
end Go.Proofs.Ytladcfeibpddeab
