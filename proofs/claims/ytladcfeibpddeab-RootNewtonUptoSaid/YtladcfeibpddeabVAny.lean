import Derived.Test.YtladcfeibpddeabVReg
set_option linter.unusedVariables false
set_option linter.unusedSimpArgs false
namespace Go.VM
open Go.RowKit

variable {F : Ctx} {S S' : VS} {a : Act} {w : World} {μ : Nat → Nat} {ops : Array Oper} {Q : Exit → Act → World → Prop}

def opOf (P : Program) (ops : Array Oper) (i : Nat) : VO := match ops[i]? with | some o => resVO P true ops o | none => ⟨none, .bad, none⟩

def ClosedL (ops : Array Oper) (listed : Array Bool) : Prop := ∀ (j : Nat) (o : Oper), listed.getD j false = true → ops[j]? = some o → ∀ e ∈ o.after, Region.binds .any e = true → listed.getD e.on false = true

theorem VSteps.append {P : Program} {c0 : Nat} : ∀ {l r : List VO} {S S' : VS}, VSteps P true c0 (l ++ r) S S' ↔ ∃ S1, VSteps P true c0 l S S1 ∧ VSteps P true c0 r S1 S'
  | [], r, S, S' => ⟨fun h => ⟨S, .nil S, h⟩, fun ⟨S1, h1, h2⟩ => by
      cases h1 with
      | nil => exact h2
      | frz hdr => cases hdr⟩
  | o :: l, r, S, S' => by
    constructor
    · intro h
      cases h with
      | cons h t =>
        obtain ⟨S1, h1, h2⟩ := VSteps.append.1 t
        exact ⟨S1, .cons h h1, h2⟩
      | frz hdr => cases hdr
    · rintro ⟨S1, h1, h2⟩
      cases h1 with
      | cons h t => exact .cons h (VSteps.append.2 ⟨S1, t, h2⟩)
      | frz hdr => cases hdr

/-- an operation that may change places with all ahead of it comes first -/
theorem pull_first {P : Program} {c0 : Nat} {y : VO} {r : List VO} {S' : VS} : ∀ {l : List VO} {S : VS}, (∀ x ∈ l, x.swaps y = true) → VSteps P true c0 (l ++ y :: r) S S' → ∃ S1, VStep P true c0 y S S1 ∧ VSteps P true c0 (l ++ r) S1 S'
  | [], S, _, h => by cases h with | cons h t => exact ⟨_, h, t⟩ | frz hdr => cases hdr
  | x :: l, S, hs, h => by
    cases h with
    | cons hx t =>
      obtain ⟨S1, h1, h2⟩ := pull_first (fun z hz => hs z (List.mem_cons_of_mem _ hz)) t
      obtain ⟨S1', h3, h4⟩ := swap_step (hs x List.mem_cons_self) hx h1
      exact ⟨S1', h3, .cons h4 h2⟩
    | frz hdr => cases hdr

theorem getD_bool {listed : Array Bool} {j : Nat} (h : listed.getD j true = false) : listed.getD j false = false := by
  rw [Array.getD_eq_getD_getElem?] at *
  cases hq : listed[j]? with
  | none => rw [hq] at h; simp at h
  | some b => rw [hq] at h; simpa using h

theorem any_sound (hok : okDraw F.P ops = true) (hds : ∀ (i : Nat) (o : Oper) d, ops[i]? = some o → o.dst = some d → d < F.nt) {K : VS → Prop} (hQ : ∀ S' a' w' μ', K S' → Inv F S' a' w' μ' → Q .normal a' w') :
    ∀ (n : Nat) (listed : Array Bool) (U : List Nat) (S : VS) (a : Act) (w : World) (μ : Nat → Nat), U.length = n → U.Pairwise (· < ·) → (∀ i, i ∈ U ↔ i < ops.size ∧ listed.getD i true = false) → ClosedL ops listed → Inv F S a w μ →
      (∃ S', VSteps F.P true F.c0 (U.map (opOf F.P ops)) S S' ∧ K S') → wpAny F.P .any ops Q n listed a w := by
  intro n
  have hok' : ∀ (j : Nat) (o : Oper), ops[j]? = some o → (∀ e ∈ o.after, Region.binds .any e = true → e.on < j) ∧ ∀ i, i < j → ordered ops i o = true ∨ ∃ x, ops[i]? = some x ∧ (resVO F.P true ops x).swaps (resVO F.P true ops o) = true := by
    intro j o ho
    have hj : j < ops.size := (Array.getElem?_eq_some_iff.1 ho).1
    unfold okDraw at hok
    have := List.all_eq_true.1 hok j (List.mem_range.2 hj)
    rw [ho] at this
    simp only [Bool.and_eq_true] at this
    refine ⟨fun e he hb => ?_, fun i hi => ?_⟩
    · have h2 := Array.all_eq_true_iff_forall_mem.1 this.1 e he
      rw [hb] at h2
      simpa using h2
    · have h2 := List.all_eq_true.1 this.2 i (List.mem_range.2 hi)
      simp only [Bool.or_eq_true] at h2
      rcases h2 with h2 | h2
      · exact .inl h2
      · cases hx : ops[i]? with
        | none => rw [hx] at h2; cases h2
        | some x => rw [hx] at h2; exact .inr ⟨x, rfl, h2⟩
  induction n with
  | zero =>
    intro listed U S a w μ hn _ hU _ hI ⟨S', hs, hk⟩
    have hU0 : U = [] := List.eq_nil_of_length_eq_zero hn
    subst hU0
    refine ⟨?_, ?_⟩
    · rw [List.eq_nil_iff_forall_not_mem]
      intro j hj
      obtain ⟨h0, o, ho, _⟩ := mem_ready.1 hj
      have : j ∈ ([] : List Nat) := (hU j).2 ⟨(Array.getElem?_eq_some_iff.1 ho).1, h0⟩
      simp at this
    · cases hs with
      | nil => exact hQ _ _ _ _ hk hI
      | frz hdr => cases hdr
  | succ n ih =>
    intro listed U S a w μ hn hp hU hcl hI ⟨S', hs, hk⟩
    refine ⟨fun hr => ?_, fun i hi => ?_⟩
    · -- the first one is ready
      exfalso
      cases U with
      | nil => simp at hn
      | cons x U' =>
        have hx := (hU x).1 List.mem_cons_self
        obtain ⟨o, ho⟩ : ∃ o, ops[x]? = some o := ⟨_, Array.getElem?_eq_getElem hx.1⟩
        have : x ∈ Region.ready .any ops listed := by
          refine mem_ready.2 ⟨hx.2, o, ho, fun e he hb => ?_⟩
          have hlt := (hok' x o ho).1 e he hb
          cases hl : listed.getD e.on false with
          | true => rfl
          | false =>
            exfalso
            have hlt2 : e.on < ops.size := by omega
            by_cases ht : listed.getD e.on true = false
            · have hm := (hU e.on).2 ⟨hlt2, ht⟩
              rcases List.mem_cons.1 hm with h | h
              · omega
              · have := (List.pairwise_cons.1 hp).1 _ h; omega
            · have ht' : listed.getD e.on true = true := by simpa using ht
              rw [Array.getD_eq_getD_getElem?] at ht' hl
              -- beyond the array: not an index at all
              cases hq : listed[e.on]? with
              | some b => rw [hq] at ht' hl; simp at ht' hl; rw [hl] at ht'; cases ht'
              | none =>
                -- the size of 'listed' is at least that of the operations below x
                have hxl : listed.getD x true = false := hx.2
                rw [Array.getD_eq_getD_getElem?] at hxl
                cases hqx : listed[x]? with
                | none => rw [hqx] at hxl; simp at hxl
                | some b =>
                  have := (Array.getElem?_eq_some_iff.1 hqx).1
                  have := Array.getElem?_eq_none_iff.1 hq
                  omega
        rw [hr] at this
        simp at this
    · obtain ⟨h0, o, ho, hpre⟩ := mem_ready.1 hi
      have hiU : i ∈ U := (hU i).2 ⟨(Array.getElem?_eq_some_iff.1 ho).1, h0⟩
      obtain ⟨L1, L2, rfl⟩ := List.append_of_mem hiU
      rw [List.pairwise_append] at hp
      obtain ⟨p1, p2, p3⟩ := hp
      have hop : opOf F.P ops i = resVO F.P true ops o := by unfold opOf; rw [ho]
      have hsw : ∀ x ∈ L1.map (opOf F.P ops), x.swaps (opOf F.P ops i) = true := by
        intro x hx
        obtain ⟨j, hj, rfl⟩ := List.mem_map.1 hx
        have hjU := (hU j).1 (List.mem_append_left _ hj)
        have hlt := p3 j hj i List.mem_cons_self
        have hunl : listed.getD j false = false := getD_bool hjU.2
        rcases (hok' i o ho).2 j hlt with h | ⟨xo, hxo, h⟩
        · exfalso
          unfold ordered at h
          simp only [Bool.or_eq_true] at h
          have direct : ∀ o' : Oper, bindsOn o' j = true → ∃ e ∈ o'.after, Region.binds .any e = true ∧ e.on = j := by
            intro o' h
            unfold bindsOn at h
            rw [Array.any_eq_true'] at h
            obtain ⟨e, he, h⟩ := h
            simp only [Bool.and_eq_true, beq_iff_eq] at h
            exact ⟨e, he, h.1, h.2⟩
          rcases h with h | h
          · obtain ⟨e, he, hb, rfl⟩ := direct o h
            rw [hpre e he hb] at hunl; cases hunl
          · rw [Array.any_eq_true'] at h
            obtain ⟨e, he, h⟩ := h
            simp only [Bool.and_eq_true] at h
            obtain ⟨hb, h⟩ := h
            have hl := hpre e he hb
            cases ho' : ops[e.on]? with
            | none => rw [ho'] at h; cases h
            | some o' =>
              rw [ho'] at h
              obtain ⟨e', he', hb', rfl⟩ := direct o' h
              rw [hcl e.on o' hl ho' e' he' hb'] at hunl; cases hunl
        · unfold opOf
          rw [hxo, ho]; exact h
      rw [List.map_append, List.map_cons] at hs
      obtain ⟨S1, h1, h2⟩ := pull_first hsw hs
      rw [hop] at h1
      refine step_wp hI ho (fun d hd => hds i o d ho hd) h1 fun a' w' μ' hI' => ?_
      have p2' := List.pairwise_cons.1 p2
      refine ih (listed.setIfInBounds i true) (L1 ++ L2) S1 a' w' μ' (by simp at hn ⊢; omega) ?_ (fun j => ?_) ?_ hI' ⟨S', by rw [List.map_append]; exact h2, hk⟩
      · rw [List.pairwise_append]
        exact ⟨p1, p2'.2, fun x hx y hy => p3 x hx y (List.mem_cons_of_mem _ hy)⟩
      · by_cases e : j = i
        · subst e
          constructor
          · intro hm
            exfalso
            rcases List.mem_append.1 hm with h | h
            · have := p3 j h j List.mem_cons_self; omega
            · have := p2'.1 j h; omega
          · rintro ⟨_, h⟩
            exfalso
            rw [Array.getD_eq_getD_getElem?, Array.getElem?_setIfInBounds] at h
            rw [if_pos rfl] at h
            split at h <;> simp at h
        · rw [getD_set_ne true (Ne.symm e), ← hU j]
          simp only [List.mem_append, List.mem_cons]
          constructor
          · rintro (h | h)
            · exact .inl h
            · exact .inr (.inr h)
          · rintro (h | h | h)
            · exact .inl h
            · exact absurd h e
            · exact .inr h
      · intro j o' hj ho' e he hb
        by_cases ej : j = i
        · subst ej
          rw [ho] at ho'; cases ho'
          exact getD_set_true (hpre e he hb)
        · rw [getD_set_ne false (Ne.symm ej)] at hj
          exact getD_set_true (hcl j o' hj ho' e he hb)

/-- a region, in its text's order or in any -/
theorem region_wp (hm : F.P.follows .mixedOrders = true) {id : Nat} {draw : Bool} (hd : okDst F.nt ops = true) (hok : (!draw || okDraw F.P ops) = true) (hI : Inv F S a w μ) {K : VS → Prop} (hQ : ∀ S' a' w' μ', K S' → Inv F S' a' w' μ' → Q .normal a' w')
    (h : ∃ S', VSteps F.P draw F.c0 (ops.toList.map (resVO F.P draw ops)) S S' ∧ K S') : (Code.region id ops draw).wp F.P Q a w := by
  have hds : ∀ (i : Nat) (o : Oper) d, ops[i]? = some o → o.dst = some d → d < F.nt := by
    intro i o d ho hod
    unfold okDst at hd
    have := Array.all_eq_true_iff_forall_mem.1 hd o (Array.mem_of_getElem? ho)
    rw [hod] at this
    simpa using this
  cases draw with
  | false =>
    refine wp_region ?_
    have := steps_wp (ops := ops) hds hQ ops.toList 0 S a w μ (fun j => by simp) hI h
    rw [List.range_eq_range']
    simpa using this
  | true =>
    refine wp_region_any hm ?_
    have hI' : Inv F S a { w with drawn := w.drawn + 1 } μ := hI.same rfl rfl rfl rfl
    refine any_sound (by simpa using hok) hds hQ ops.size _ (List.range ops.size) S a _ μ (by simp) List.pairwise_lt_range (fun i => ?_) (fun j o hj => ?_) hI' ?_
    · rw [List.mem_range]
      constructor
      · intro h; exact ⟨h, by simp [Array.getD, h]⟩
      · exact fun h => h.1
    · rw [Array.getD_eq_getD_getElem?, Array.getElem?_replicate] at hj
      split at hj <;> simp at hj
    · obtain ⟨S', h1, h2⟩ := h
      refine ⟨S', ?_, h2⟩
      have : (List.range ops.size).map (opOf F.P ops) = ops.toList.map (resVO F.P true ops) := by
        apply List.ext_getElem
        · simp
        · intro i h1 h2
          simp at h1 h2 ⊢
          unfold opOf
          rw [Array.getElem?_eq_getElem h1]
      rw [this]; exact h1
end Go.VM
