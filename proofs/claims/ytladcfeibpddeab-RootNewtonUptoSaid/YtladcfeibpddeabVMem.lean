import Derived.Test.YtladcfeibpddeabVRun
import Derived.Laws.CopyRow
set_option linter.unusedVariables false
set_option linter.unusedSimpArgs false
namespace Go.VM
open Go.RowKit

variable {F : Ctx} {σ : Nat → Option Blk} {c : Nat} {w w' : World} {μ : Nat → Nat}

def newμ (μ : Nat → Nat) (c b : Nat) : Nat → Nat := fun t => if t = c then b else μ t
theorem newμ_old {t b : Nat} (h : t < c) : newμ μ c b t = μ t := by unfold newμ; rw [if_neg (by omega)]
theorem newμ_new {b : Nat} : newμ μ c b c = b := by unfold newμ; rw [if_pos rfl]

theorem heap_push_old {o : Obj} (hw : w'.heap = w.heap.push o) {b : Nat} (hb : b < w.heap.size) : w'.heap[b]? = w.heap[b]? := by
  rw [hw, Array.getElem?_push, if_neg (by omega)]
theorem grows_push {o : Obj} (hw : w'.heap = w.heap.push o) : Grows w w' := fun b arr T h => ⟨arr, T, by rw [hw, Array.getElem?_push, if_neg (by have := (Array.getElem?_eq_some_iff.1 h).1; omega)]; exact h, Nat.le_refl _⟩
theorem grows_set {g : Nat} {old arr : Array Value} {T : TypeId} (hold : w.heap[g]? = some (.cells old T (0, 0))) (hs : old.size ≤ arr.size) : Grows w (w.setRow g arr) := by
  intro b a' T' h
  by_cases e : b = g
  · subst e
    rw [hold] at h
    cases h
    exact ⟨arr, T, setRow_heap w _ old arr T (0, 0) hold, hs⟩
  · exact ⟨a', T', by rw [setRow_other w _ _ _ e]; exact h, Nat.le_refl _⟩
theorem heap_push_new {o : Obj} (hw : w'.heap = w.heap.push o) : w'.heap[w.heap.size]? = some o := by rw [hw]; simp

def ownσ (σ : Nat → Option Blk) (c : Nat) (own : Option Blk) : Nat → Option Blk := match own with | some k => supd σ c (some k) | none => σ

/-- a new block: one of the call's own buffers, or one that is never written ('none') -/
theorem mem_new (h : Mem F σ c w μ) (own : Option Blk) {arr : Array Value} {T : TypeId} (ho : w'.os = w.os) (ht : w'.tape = w.tape) (hp : w'.output = w.output) (hw : w'.heap = w.heap.push (.cells arr T (0, 0))) (hone : ∀ (i : Nat) (v : Value), arr[i]? = some v → v.oneCell' = true)
    (hb : ∀ k, own = some k → k.cells.length ≤ arr.size ∧ (∀ (i : Nat) (v : Value), arr[i]? = some v → v.oneCell' = true) ∧ ∀ (i : Nat) (x : V) (v : Value), k.cells[i]? = some x → arr[i]? = some v → Rep w (F.M σ w μ) μ c x v) :
    Back F σ (ownσ σ c own) c (c + 1) w w' μ (newμ μ c w.heap.size) (fun b => F.M σ w μ b ∨ (own = none ∧ b = w.heap.size)) := by
  have hsz : w'.heap.size = w.heap.size + 1 := by rw [hw]; simp
  have hσc : σ c = none := by
    cases hk : σ c with
    | none => rfl
    | some k => exact absurd (h.lt hk).1 (Nat.lt_irrefl _)
  generalize hσ' : ownσ σ c own = σ'
  have hj : ∀ t k, σ' t = some k → (t ≠ c ∧ σ t = some k) ∨ (t = c ∧ own = some k) := by
    intro t k hk
    subst hσ'
    cases own with
    | none => simp only [ownσ] at hk; exact .inl ⟨fun e => by subst e; simp [hσc] at hk, hk⟩
    | some q =>
      simp only [ownσ, supd] at hk
      split at hk
      · rename_i e; exact .inr ⟨e, by simpa using hk⟩
      · rename_i e; exact .inl ⟨e, hk⟩
  have hsame : ∀ b, F.M σ w μ b → w'.heap[b]? = w.heap[b]? := fun b hb => heap_push_old hw (h.M_lt hb)
  have hmu : ∀ t, t < c → newμ μ c w.heap.size t = μ t := fun t ht => newμ_old ht
  have hlive : ∀ b, Live σ' (newμ μ c w.heap.size) b → Live σ μ b ∨ (b = w.heap.size ∧ own ≠ none) := by
    rintro b ⟨t, k, hk, hl, e⟩
    rcases hj t k hk with ⟨_, g⟩ | ⟨g, g'⟩
    · exact .inl ⟨t, k, g, hl, by rw [← hmu t (h.lt g).1]; exact e⟩
    · subst g; rw [newμ_new] at e; exact .inr ⟨e.symm, by rw [g']; simp⟩
  have hsub : ∀ b, F.M σ w μ b → F.M σ' w' (newμ μ c w.heap.size) b := by
    rintro b (hb | ⟨h1, h2, h3⟩)
    · exact .inl hb
    · refine .inr ⟨h1, by omega, fun hl => ?_⟩
      rcases hlive b hl with g | ⟨g, _⟩
      · exact h3 g
      · omega
  have hbase : F.base ≤ w.heap.size := h.moved.size
  refine ⟨⟨h.good, ⟨ho.trans h.moved.os, ht.trans h.moved.tape, hp.trans h.moved.output, by omega, h.moved.grows.trans (grows_push hw), fun b hb hne => ?_⟩, by have := h.c0; omega, fun t ht => ?_, fun t h1 h2 => ?_, fun t t' h1 h2 h1' h2' e => ?_, fun t k hk => ?_, fun t ht => ?_, fun t k hk => ?_⟩, hsame, hsub, hmu, by omega, grows_push hw, ?_⟩
  · rw [heap_push_old hw (by omega)]; exact h.moved.block b hb hne
  · rw [hmu t (by have := h.c0; omega)]; exact h.mu0 t ht
  · by_cases e : t = c
    · subst e; rw [newμ_new]; exact ⟨hbase, by omega, arr, T, heap_push_new hw, hone⟩
    · obtain ⟨g1, g2, arr', T', g3, g3'⟩ := h.tok t h1 (by omega)
      rw [hmu t (by omega)]
      exact ⟨g1, by omega, arr', T', by rw [heap_push_old hw g2]; exact g3, g3'⟩
  · by_cases e1 : t = c <;> by_cases e2 : t' = c
    · omega
    · subst e1; rw [newμ_new, hmu t' (by omega)] at e; have := (h.tok t' h1' (by omega)).2.1; omega
    · subst e2; rw [newμ_new, hmu t (by omega)] at e; have := (h.tok t h1 (by omega)).2.1; omega
    · rw [hmu t (by omega), hmu t' (by omega)] at e; exact h.inj t t' h1 (by omega) h1' (by omega) e
  · rcases hj t k hk with ⟨_, g⟩ | ⟨g, _⟩
    · rcases h.dom t k g with ⟨g1, g2⟩ | g1
      · exact .inl ⟨g1, by omega⟩
      · exact .inr g1
    · exact .inl ⟨by have := h.c0; omega, by omega⟩
  · obtain ⟨k, hk⟩ := h.lent t ht
    refine ⟨k, ?_⟩
    subst hσ'
    cases own with
    | none => exact hk
    | some q => simp only [ownσ, supd]; rw [if_neg]; exact hk; intro e; subst e; rw [hσc] at hk; cases hk
  · rcases hj t k hk with ⟨_, g⟩ | ⟨g, g'⟩
    · obtain ⟨arr', T', g1, g2, g3, g4⟩ := h.blk t k g
      rw [hmu t (h.lt g).1]
      exact ⟨arr', T', by rw [heap_push_old hw (h.lt g).2]; exact g1, g2, g3, fun i x v hx hv => (g4 i x v hx hv).mono hsame hsub (fun t ht _ => hmu t ht) (by omega)⟩
    · subst g
      rw [newμ_new]
      obtain ⟨g2, g3, g4⟩ := hb k g'
      exact ⟨arr, T, heap_push_new hw, g2, g3, fun i x v hx hv => (g4 i x v hx hv).mono hsame hsub (fun t ht _ => hmu t ht) (by omega)⟩
  · rintro b (hb | ⟨g, rfl⟩)
    · exact hsub b hb
    · refine .inr ⟨hbase, by omega, fun hl => ?_⟩
      rcases hlive _ hl with ⟨t, k, hk, _, e⟩ | ⟨_, g'⟩
      · have := (h.lt hk).2; omega
      · exact g' g

/-- a live buffer is written -/
theorem mem_set (h : Mem F σ c w μ) {t : Nat} {k : Blk} (ht : σ t = some k) (hl : k.live = true) {cells : List V} {old arr : Array Value} {T : TypeId} (hold : w.heap[μ t]? = some (.cells old T (0, 0))) (hs : old.size ≤ arr.size)
    (hb : cells.length ≤ arr.size ∧ (∀ (i : Nat) (v : Value), arr[i]? = some v → v.oneCell' = true) ∧ ∀ (i : Nat) (x : V) (v : Value), cells[i]? = some x → arr[i]? = some v → Rep w (F.M σ w μ) μ c x v) :
    Back F σ (supd σ t (some ⟨cells, true⟩)) c c w (w.setRow (μ t) arr) μ μ (F.M σ w μ) := by
  have hj : ∀ t' k', supd σ t (some ⟨cells, true⟩) t' = some k' → (t' ≠ t ∧ σ t' = some k') ∨ (t' = t ∧ k' = ⟨cells, true⟩) := by
    intro t' k' hk
    simp only [supd] at hk
    split at hk
    · rename_i e; exact .inr ⟨e, by simpa using hk.symm⟩
    · rename_i e; exact .inl ⟨e, hk⟩
  have hlive : ∀ b, Live (supd σ t (some ⟨cells, true⟩)) μ b → Live σ μ b := by
    rintro b ⟨t', k', hk, hl', e⟩
    rcases hj t' k' hk with ⟨_, g⟩ | ⟨g, _⟩
    · exact ⟨t', k', g, hl', e⟩
    · subst g; exact ⟨t', k, ht, hl, e⟩
  have hsame : ∀ b, F.M σ w μ b → (w.setRow (μ t) arr).heap[b]? = w.heap[b]? := fun b hb => setRow_other w _ b _ (fun e => h.notM ht hl (e ▸ hb))
  have hsub : ∀ b, F.M σ w μ b → F.M (supd σ t (some ⟨cells, true⟩)) (w.setRow (μ t) arr) μ b := by
    rintro b (hb | ⟨h1, h2, h3⟩)
    · exact .inl hb
    · exact .inr ⟨h1, by simpa using h2, fun g => h3 (hlive b g)⟩
  refine ⟨⟨h.good, ⟨by simp [h.moved.os], by simp [h.moved.tape], by simp [h.moved.output], by simp [h.moved.size], h.moved.grows.trans (grows_set hold hs), fun b hb hne => ?_⟩, h.c0, h.mu0, fun t' h1 h2 => ?_, h.inj, fun t' k' hk => ?_, fun t' ht' => ?_, fun t' k' hk => ?_⟩, hsame, hsub, fun _ _ => rfl, Nat.le_refl _, grows_set hold hs, hsub⟩
  · rw [setRow_other]
    · exact h.moved.block b hb hne
    · intro e
      rcases h.dom t k ht with ⟨g1, g2⟩ | ⟨g1, g2, _⟩
      · have := (h.tok t g1 g2).1; omega
      · exact hne t g2 (by rw [← h.mu0 t g1]; exact e.symm)
  · obtain ⟨g1, g2, arr', T', g3, g3'⟩ := h.tok t' h1 h2
    refine ⟨g1, by simpa using g2, ?_⟩
    by_cases e : μ t' = μ t
    · rw [e]; exact ⟨arr, T, setRow_heap w _ old arr T (0, 0) hold, hb.2.1⟩
    · exact ⟨arr', T', by rw [setRow_other w _ _ _ e]; exact g3, g3'⟩
  · rcases hj t' k' hk with ⟨_, g⟩ | ⟨g, g'⟩
    · exact h.dom t' k' g
    · subst g; subst g'
      rcases h.dom t' k ht with g1 | ⟨g1, g2, _⟩
      · exact .inl g1
      · exact .inr ⟨g1, g2, rfl⟩
  · obtain ⟨k', hk⟩ := h.lent t' ht'
    simp only [supd]
    split
    · exact ⟨_, rfl⟩
    · exact ⟨k', hk⟩
  · rcases hj t' k' hk with ⟨g0, g⟩ | ⟨g, g'⟩
    · obtain ⟨arr', T', g1, g2, g3, g4⟩ := h.blk t' k' g
      have hne : μ t' ≠ μ t := fun e => g0 (h.muinj g ht e)
      exact ⟨arr', T', by rw [setRow_other w _ _ _ hne]; exact g1, g2, g3, fun i x v hx hv => (g4 i x v hx hv).mono hsame hsub (fun _ _ _ => rfl) (Nat.le_refl _)⟩
    · subst g; subst g'
      exact ⟨arr, T, setRow_heap w _ old arr T (0, 0) hold, hb.1, hb.2.1, fun i x v hx hv => (hb.2.2 i x v hx hv).mono hsame hsub (fun _ _ _ => rfl) (Nat.le_refl _)⟩

/-- one of the call's own buffers goes over into a new block -/
structure BackMove (F : Ctx) (σ σ'' : Nat → Option Blk) (c t : Nat) (w w' : World) (μ μ' : Nat → Nat) : Prop where
  mem : Mem F σ'' c w' μ'
  same : ∀ b, F.M σ w μ b → w'.heap[b]? = w.heap[b]?
  sub : ∀ b, F.M σ w μ b → F.M σ'' w' μ' b
  mu : ∀ t', t' < c → t' ≠ t → μ' t' = μ t'
  grows : Grows w w'

theorem mem_move (h : Mem F σ c w μ) {t : Nat} {k : Blk} (ht : σ t = some k) (hl : k.live = true) (h0 : F.c0 ≤ t) {cells : List V} {arr : Array Value} {T : TypeId} (ho : w'.os = w.os) (htp : w'.tape = w.tape) (hp : w'.output = w.output)
    (hw : w'.heap = w.heap.push (.cells arr T (0, 0)))
    (hb : cells.length ≤ arr.size ∧ (∀ (i : Nat) (v : Value), arr[i]? = some v → v.oneCell' = true) ∧ ∀ (i : Nat) (x : V) (v : Value), cells[i]? = some x → arr[i]? = some v → Rep w (F.M σ w μ) μ c x v) :
    BackMove F σ (supd σ t (some ⟨cells, true⟩)) c t w w' μ (newμ μ t w.heap.size) := by
  have hsz : w'.heap.size = w.heap.size + 1 := by rw [hw]; simp
  have hne : ∀ t', t' ≠ t → newμ μ t w.heap.size t' = μ t' := fun t' e => by unfold newμ; rw [if_neg e]
  have hj : ∀ t' k', supd σ t (some ⟨cells, true⟩) t' = some k' → (t' ≠ t ∧ σ t' = some k') ∨ (t' = t ∧ k' = ⟨cells, true⟩) := by
    intro t' k' hk
    simp only [supd] at hk
    split at hk
    · rename_i e; exact .inr ⟨e, by simpa using hk.symm⟩
    · rename_i e; exact .inl ⟨e, hk⟩
  have hsame : ∀ b, F.M σ w μ b → w'.heap[b]? = w.heap[b]? := fun b hb => heap_push_old hw (h.M_lt hb)
  have hlive : ∀ b, Live (supd σ t (some ⟨cells, true⟩)) (newμ μ t w.heap.size) b → Live σ μ b ∨ b = w.heap.size := by
    rintro b ⟨t', k', hk, hl', e⟩
    rcases hj t' k' hk with ⟨g0, g⟩ | ⟨g, _⟩
    · exact .inl ⟨t', k', g, hl', by rw [← hne t' g0]; exact e⟩
    · subst g; rw [newμ_new] at e; exact .inr e.symm
  have hsub : ∀ b, F.M σ w μ b → F.M (supd σ t (some ⟨cells, true⟩)) w' (newμ μ t w.heap.size) b := by
    rintro b (hb | ⟨h1, h2, h3⟩)
    · exact .inl hb
    · refine .inr ⟨h1, by omega, fun g => ?_⟩
      rcases hlive b g with g | g
      · exact h3 g
      · omega
  have hmuM : ∀ t', t' < c → F.M σ w μ (μ t') → newμ μ t w.heap.size t' = μ t' := fun t' _ hm => hne t' (fun e => h.notM ht hl (e ▸ hm))
  have hbase : F.base ≤ w.heap.size := h.moved.size
  have htc := (h.lt ht).1
  refine ⟨⟨h.good, ⟨ho.trans h.moved.os, htp.trans h.moved.tape, hp.trans h.moved.output, by omega, h.moved.grows.trans (grows_push hw), fun b hb hne' => ?_⟩, h.c0, fun t' ht' => ?_, fun t' h1 h2 => ?_, fun t1 t2 h1 h2 h1' h2' e => ?_, fun t' k' hk => ?_, fun t' ht' => ?_, fun t' k' hk => ?_⟩, hsame, hsub, fun t' _ e => hne t' e, grows_push hw⟩
  · rw [heap_push_old hw (by omega)]; exact h.moved.block b hb hne'
  · rw [hne t' (by omega)]; exact h.mu0 t' ht'
  · by_cases e : t' = t
    · subst e; rw [newμ_new]; exact ⟨hbase, by omega, arr, T, heap_push_new hw, hb.2.1⟩
    · obtain ⟨g1, g2, arr', T', g3, g3'⟩ := h.tok t' h1 h2
      rw [hne t' e]
      exact ⟨g1, by omega, arr', T', by rw [heap_push_old hw g2]; exact g3, g3'⟩
  · by_cases e1 : t1 = t <;> by_cases e2 : t2 = t
    · omega
    · subst e1; rw [newμ_new, hne t2 e2] at e; have := (h.tok t2 h1' h2').2.1; omega
    · subst e2; rw [newμ_new, hne t1 e1] at e; have := (h.tok t1 h1 h2).2.1; omega
    · rw [hne t1 e1, hne t2 e2] at e; exact h.inj t1 t2 h1 h2 h1' h2' e
  · rcases hj t' k' hk with ⟨_, g⟩ | ⟨g, g'⟩
    · exact h.dom t' k' g
    · subst g; exact .inl ⟨h0, htc⟩
  · obtain ⟨k', hk⟩ := h.lent t' ht'
    simp only [supd]
    split
    · exact ⟨_, rfl⟩
    · exact ⟨k', hk⟩
  · rcases hj t' k' hk with ⟨g0, g⟩ | ⟨g, g'⟩
    · obtain ⟨arr', T', g1, g2, g3, g4⟩ := h.blk t' k' g
      rw [hne t' g0]
      exact ⟨arr', T', by rw [heap_push_old hw (h.lt g).2]; exact g1, g2, g3, fun i x v hx hv => (g4 i x v hx hv).mono hsame hsub hmuM (Nat.le_refl _)⟩
    · subst g; subst g'
      rw [newμ_new]
      exact ⟨arr, T, heap_push_new hw, hb.1, hb.2.1, fun i x v hx hv => (hb.2.2 i x v hx hv).mono hsame hsub hmuM (Nat.le_refl _)⟩

theorem killV_rep {M M' : Nat → Prop} {μ' : Nat → Nat} {t : Nat} {x : V} {u : Value} (h : RepE w M μ c x u) (hG : Grows w w') (hw : ∀ b, M b → w'.heap[b]? = w.heap[b]?) (hM : ∀ b, M b → M' b)
    (hμ : ∀ t', t' < c → t' ≠ t → μ' t' = μ t') (hμM : ∀ t', t' < c → M (μ t') → μ' t' = μ t') : RepE w' M' μ' c (killV t x) u := by
  cases x with
  | buf t' off n cap sz =>
    unfold killV
    dsimp only
    split
    · exact .any u
    · rename_i hne
      obtain ⟨cp, of', rfl, g0, g1, g2, g3, g4, arr, T, g5, g6⟩ := h
      obtain ⟨arr', T', g7, g8⟩ := hG _ arr T g5
      exact ⟨cp, of', by rw [hμ t' g2 hne], g0, g1, g2, g3, g4, arr', T', by rw [hμ t' g2 hne]; exact g7, Nat.le_trans g6 g8⟩
  | ptr t' off =>
    unfold killV
    dsimp only
    split
    · exact .any u
    · rename_i hne
      obtain ⟨rfl, g2⟩ := h
      exact ⟨by rw [hμ t' g2 hne], g2⟩
  | eptr l i =>
    obtain ⟨a, vs, rfl, h1, h2, h3⟩ := h
    refine ⟨a, vs, rfl, fun h => hM _ (h1 h), fun j hj => ?_, fun j x hx => (h3 j x hx).mono hw hM hμM (Nat.le_refl _)⟩
    rw [cell_same (hw _ (h1 (by omega)))]; exact h2 j hj
  | any => exact Rep.mono h hw hM hμM (Nat.le_refl _)
  | lit _ => exact Rep.mono h hw hM hμM (Nat.le_refl _)
  | sl _ _ _ => exact Rep.mono h hw hM hμM (Nat.le_refl _)
  | agg _ => exact Rep.mono h hw hM hμM (Nat.le_refl _)
  | tup _ => exact Rep.mono h hw hM hμM (Nat.le_refl _)

theorem Inv.back {S : VS} {a : Act} {σ' : Nat → Option Blk} {c' : Nat} {μ' : Nat → Nat} {M' : Nat → Prop} (h : Inv F S a w μ) (hb : Back F S.σ σ' S.c c' w w' μ μ' M') : Inv F ⟨S.ρ, σ', c'⟩ a w' μ' :=
  h.later hb.mem hb.grows hb.same hb.sub hb.mu hb.le

theorem Inv.move {S : VS} {a : Act} {σ' : Nat → Option Blk} {μ' : Nat → Nat} {t : Nat} {k : Blk} (h : Inv F S a w μ) (ht : S.σ t = some k) (hl : k.live = true) (hb : BackMove F S.σ σ' S.c t w w' μ μ') : Inv F ⟨kill (some t) S.ρ, σ', S.c⟩ a w' μ' :=
  ⟨h.size, h.defers, hb.mem, fun i => killV_rep (h.env i) hb.grows hb.same hb.sub hb.mu (fun t' h1 h2 => hb.mu t' h1 (fun e => h.mem.notM ht hl (e ▸ h2)))⟩

end Go.VM
