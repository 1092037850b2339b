import Derived.Test.YtladcfeibpddeabVPure3
set_option linter.unusedVariables false
set_option linter.unusedSimpArgs false
namespace Go.VM
open Go.RowKit

/-- the contract of a call: from these arguments and lent buffers to this answer and what the buffers then hold -/
def VCalls (P : Program) (f : FuncId) (c : Nat) (σ : Nat → Option Blk) (xs : List V) (r : V) (σ' : Nat → Option Blk) (c' : Nat) : Prop :=
  ∀ (w : World) (Φ : Nat → Prop) (μ : Nat → Nat) (vs : Array Value), Mem ⟨P, 0, w, Φ, c, μ, σ⟩ σ c w μ → vs.size = xs.length →
    (∀ (j : Nat) (x : V) (v : Value), xs[j]? = some x → vs[j]? = some v → RepE w (Ctx.M ⟨P, 0, w, Φ, c, μ, σ⟩ σ w μ) μ c x v) →
    Calls P f vs w fun e w' => ∃ v μ', e = .returned v ∧ Mem ⟨P, 0, w, Φ, c, μ, σ⟩ σ' c' w' μ' ∧ RepE w' (Ctx.M ⟨P, 0, w, Φ, c, μ, σ⟩ σ' w' μ') μ' c' r v

def noBlk : Nat → Option Blk := fun _ => none
abbrev VCallP (P : Program) (f : FuncId) (c : Nat) (xs : List V) (r : V) (c' : Nat) : Prop := VCalls P f c noBlk xs r noBlk c'

def killV (t : Nat) (v : V) : V := match v with
  | .buf t' off n cap sz => if t' = t then .any else .buf t' off n cap sz
  | .ptr t' off => if t' = t then .any else .ptr t' off
  | v => v
def kill (t : Option Nat) (ρ : Nat → V) : Nat → V := match t with | some t => fun i => killV t (ρ i) | none => ρ

def joinσ (c : Nat) (σ σl σ' : Nat → Option Blk) : Nat → Option Blk := fun t => if (σl t).isSome = true ∨ c ≤ t then σ' t else σ t

/-- what an operation comes to: (buffers, count) → value, (buffers, count), the buffer that has moved -/
inductive VEff (P : Program) (dr : Bool) (c0 : Nat) (e : X → V) (σ : Nat → Option Blk) (c : Nat) : VOp → V → (Nat → Option Blk) → Nat → Option Nat → Prop
  | pure {o : VOp} {v : V} (h : vpure e o = some v) : VEff P dr c0 e σ c o v σ c none
  | load {ag : Option Nat} {x : X} {v : V} (h : vload σ ag (e x) = some v) : VEff P dr c0 e σ c (.load ag x) v σ c none
  | store {n : Nat} {x y : X} {σ' : Nat → Option Blk} (h : vstore σ n (e x) (e y) = some σ') : VEff P dr c0 e σ c (.store n x y) .any σ' c none
  | mk {z : List Value} {bytes : Nat} {l q : X} {kl kq : IntKind} {n cap : Nat} (hl : e l = .lit (.int kl n)) (hq : e q = .lit (.int kq cap)) (h1 : n ≤ cap) (h2 : cap * bytes ≤ 281474976710656) (h3 : cap ≤ 9223372036854775807) :
      VEff P dr c0 e σ c (.mk z bytes l q) (.buf c 0 n (some cap) z.length) (supd σ c (some ⟨rept z cap, true⟩)) (c + 1) none
  | box {x : X} {cs : List V} (h : (e x).cells = some cs) : VEff P dr c0 e σ c (.box x) (.ptr c 0) (supd σ c (some ⟨cs, true⟩)) (c + 1) none
  | alloc {z : List Value} : VEff P dr c0 e σ c (.alloc z) (.ptr c 0) (supd σ c (some ⟨vlits z, true⟩)) (c + 1) none
  | bsl {sz len : Nat} {z : List Value} {ps : List (Nat × Nat × X)} {cs : List V} (h : vfill (rept z len) (partsOf e ps) = some cs) : VEff P dr c0 e σ c (.bsl true sz len z ps) (.sl (.id c) sz cs) σ (c + 1) none
  | bsl0 {sz len : Nat} {z : List Value} {ps : List (Nat × Nat × X)} {cs : List V} (h : vfill (rept z len) (partsOf e ps) = some cs) : VEff P dr c0 e σ c (.bsl false sz len z ps) (.sl .unk sz cs) σ c none
  /-- append to nil -/
  | appNil {sz bytes : Nat} {z : List Value} {x y : X} {k : Nat} {ys : List V} {sz0 : Nat} (hx : e x = .sl .nil sz0 []) (hy : vcells sz σ (e y) = some ys) (hk : ys.length = k * sz) (h0 : 0 < k) (h2 : k * bytes ≤ 281474976710656) (h3 : k ≤ 4611686018427387904) :
      VEff P dr c0 e σ c (.app sz bytes z x y) (.buf c 0 k none sz) (supd σ c (some ⟨ys, true⟩)) (c + 1) none
  | appNil0 {sz bytes : Nat} {z : List Value} {x y : X} {sz0 : Nat} (hx : e x = .sl .nil sz0 []) (hy : vcells sz σ (e y) = some []) : VEff P dr c0 e σ c (.app sz bytes z x y) (.sl .nil sz0 []) σ c none
  /-- append within the room that is known -/
  | appFit {sz bytes : Nat} {z : List Value} {x y : X} {t n k cap : Nat} {cs ys : List V} (hx : e x = .buf t 0 n (some cap) sz) (ht : σ t = some ⟨cs, true⟩) (hy : vcells sz σ (e y) = some ys) (hk : ys.length = k * sz)
      (h1 : n + k ≤ cap) (h2 : (n + k) * sz ≤ cs.length) : VEff P dr c0 e σ c (.app sz bytes z x y) (.buf t 0 (n + k) (some cap) sz) (supd σ t (some ⟨putCells cs (n * sz) ys, true⟩)) c none
  /-- append, wherever the room is -/
  | appMove {sz bytes : Nat} {z : List Value} {x y : X} {t n k : Nat} {cp : Option Nat} {cs ys : List V} (hx : e x = .buf t 0 n cp sz) (ht : σ t = some ⟨cs, true⟩) (ht0 : c0 ≤ t) (hy : vcells sz σ (e y) = some ys) (hk : ys.length = k * sz)
      (h1 : n * sz ≤ cs.length) (h2 : (2 * (n + k)) * bytes ≤ 281474976710656) (h3 : n + k ≤ 4611686018427387904) : VEff P dr c0 e σ c (.app sz bytes z x y) (.buf t 0 (n + k) none sz) (supd σ t (some ⟨cs.take (n * sz) ++ ys, true⟩)) c (some t)
  | cpy {sz : Nat} {x y : X} {t off n m : Nat} {cap : Option Nat} {cs ys : List V} (hx : e x = .buf t off n cap sz) (ht : σ t = some ⟨cs, true⟩) (hy : vcells sz σ (e y) = some ys) (hm : ys.length = m * sz) (h1 : off + n * sz ≤ cs.length) :
      VEff P dr c0 e σ c (.cpy sz x y) (.int .i64 ((min m n : Nat) : Int)) (supd σ t (some ⟨putCells cs off (ys.take (min m n * sz)), true⟩)) c none
  | call {f : FuncId} {xs : List X} {σl σ' : Nat → Option Blk} {r : V} {c' : Nat} (hdr : dr = false) (hl : ∀ t k, σl t = some k → σ t = some k ∧ k.live = true) (h : VCalls P f c σl (xs.map e) r σ' c') :
      VEff P dr c0 e σ c (.call f xs) r (joinσ c σ σl σ') c' none
  | callp {f : FuncId} {xs : List X} {r : V} {c' : Nat} (h : VCallP P f c (xs.map e) r c') : VEff P dr c0 e σ c (.call f xs) r σ c' none
  | callv {x : X} {f : FuncId} {xs : List X} {r : V} {c' : Nat} (hx : e x = .lit (.func (.func f) #[] #[])) (hb : ∃ fn b, P.funcs[f]? = some fn ∧ (fn.name == "runtime.NumGoroutine") = false ∧ fn.body = some b) (h : VCallP P f c (xs.map e) r c') : VEff P dr c0 e σ c (.callv x xs) r σ c' none

/-! ### a call's memory, seen from the caller -/
theorem mem_lend {F : Ctx} {σ σl : Nat → Option Blk} {c : Nat} {w : World} {μ : Nat → Nat} (h : Mem F σ c w μ) (hl : ∀ t k, σl t = some k → σ t = some k ∧ k.live = true) :
    Mem ⟨F.P, 0, w, F.M σ w μ, c, μ, σl⟩ σl c w μ := by
  have key : ∀ t, σl t ≠ none → ∃ k, σl t = some k ∧ σ t = some k ∧ k.live = true := by
    intro t ht
    cases hk : σl t with
    | none => exact absurd hk ht
    | some k => exact ⟨k, rfl, hl t k hk⟩
  have hlow : ∀ t, t < c → μ t < w.heap.size := fun t ht => by
    by_cases g : F.c0 ≤ t
    · exact (h.tok t g ht).2.1
    · have g1 := h.good.low t (by omega)
      have g2 := h.mu0 t (by omega)
      have g3 := h.moved.size
      omega
  refine ⟨⟨fun t ht => ?_, fun t ht => ?_, fun t t' ht ht' e => ?_, hlow⟩, ⟨rfl, rfl, rfl, Nat.le_refl _, Grows.refl _, fun _ _ _ => rfl⟩, Nat.le_refl _, fun _ _ => rfl, fun t h1 h2 => ?_, fun t t' h1 h2 => ?_, fun t k hk => ?_, fun t ht => ?_, fun t k hk => ?_⟩
  · obtain ⟨k, _, h2, h3⟩ := key t ht; exact h.notM h2 h3
  · obtain ⟨k, _, h2, h3⟩ := key t ht; exact h.lt h2
  · obtain ⟨k, _, h2, h3⟩ := key t ht; obtain ⟨k', _, h2', h3'⟩ := key t' ht'; exact h.muinj h2 h2' e
  · simp at h1; omega
  · simp at h1; omega
  · exact .inr ⟨(h.lt (hl t k hk).1).1, by simp [hk], (hl t k hk).2⟩
  · obtain ⟨k, h1, _⟩ := key t ht; exact ⟨k, h1⟩
  · obtain ⟨arr, T, h1, h2, h2', h3⟩ := h.blk t k (hl t k hk).1
    exact ⟨arr, T, h1, h2, h2', fun i x v hx hv => (h3 i x v hx hv).mono (fun _ _ => rfl) (fun b hb => .inl ⟨h.M_lt hb, hb⟩) (fun _ _ _ => rfl) (Nat.le_refl _)⟩

theorem lend_M {F : Ctx} {σ σl : Nat → Option Blk} {c : Nat} {w : World} {μ : Nat → Nat} (h : Mem F σ c w μ) {b : Nat} (hb : F.M σ w μ b) : Ctx.M ⟨F.P, 0, w, F.M σ w μ, c, μ, σl⟩ σl w μ b := .inl ⟨h.M_lt hb, hb⟩

structure Back (F : Ctx) (σ σ'' : Nat → Option Blk) (c c' : Nat) (w w' : World) (μ μ' : Nat → Nat) (M' : Nat → Prop) : Prop where
  mem : Mem F σ'' c' w' μ'
  same : ∀ b, F.M σ w μ b → w'.heap[b]? = w.heap[b]?
  sub : ∀ b, F.M σ w μ b → F.M σ'' w' μ' b
  mu : ∀ t, t < c → μ' t = μ t
  le : c ≤ c'
  grows : Grows w w'
  res : ∀ b, M' b → F.M σ'' w' μ' b

theorem mem_back {F : Ctx} {σ σl σ' : Nat → Option Blk} {c c' : Nat} {w w' : World} {μ μ' : Nat → Nat} (h : Mem F σ c w μ) (hl : ∀ t k, σl t = some k → σ t = some k ∧ k.live = true)
    (h' : Mem ⟨F.P, 0, w, F.M σ w μ, c, μ, σl⟩ σ' c' w' μ') : Back F σ (joinσ c σ σl σ') c c' w w' μ μ' (Ctx.M ⟨F.P, 0, w, F.M σ w μ, c, μ, σl⟩ σ' w' μ') := by
  have hc : c ≤ c' := h'.c0
  have hmu : ∀ t, t < c → μ' t = μ t := h'.mu0
  have hsz : w.heap.size ≤ w'.heap.size := h'.moved.size
  have hlb : ∀ t, σl t ≠ none → ∃ k, σl t = some k ∧ σ t = some k ∧ k.live = true := by
    intro t ht
    cases hk : σl t with
    | none => exact absurd hk ht
    | some k => exact ⟨k, rfl, hl t k hk⟩
  have hblock : ∀ b, b < w.heap.size → (∀ t, σl t ≠ none → μ t ≠ b) → w'.heap[b]? = w.heap[b]? := h'.moved.block
  have hsame : ∀ b, F.M σ w μ b → w'.heap[b]? = w.heap[b]? := by
    intro b hb
    refine hblock b (h.M_lt hb) fun t ht e => ?_
    obtain ⟨k, _, h2, h3⟩ := hlb t ht
    exact h.notM h2 h3 (e ▸ hb)
  have hj : ∀ t k, joinσ c σ σl σ' t = some k → (((σl t).isSome = true ∨ c ≤ t) ∧ σ' t = some k) ∨ (¬ ((σl t).isSome = true ∨ c ≤ t) ∧ σ t = some k) := by
    intro t k hk
    unfold joinσ at hk
    split at hk
    · rename_i g; exact .inl ⟨g, hk⟩
    · rename_i g; exact .inr ⟨g, hk⟩
  have hnewt : ∀ t, c ≤ t → t < c' → w.heap.size ≤ μ' t ∧ μ' t < w'.heap.size := fun t h1 h2 => ⟨(h'.tok t h1 h2).1, (h'.tok t h1 h2).2.1⟩
  have hold : ∀ t k, σ t = some k → μ' t = μ t ∧ μ t < w.heap.size := fun t k hk => ⟨hmu t (h.lt hk).1, (h.lt hk).2⟩
  -- a live buffer of the whole is one of the caller's, or new
  have hlive : ∀ b, Live (joinσ c σ σl σ') μ' b → Live σ μ b ∨ (w.heap.size ≤ b ∧ Live σ' μ' b) := by
    rintro b ⟨t, k, hk, hlv, e⟩
    rcases hj t k hk with ⟨g, hk'⟩ | ⟨g, hk'⟩
    · by_cases hct : c ≤ t
      · rcases h'.dom t k hk' with ⟨h1, h2⟩ | ⟨h1, h2, _⟩
        · exact .inr ⟨e ▸ (hnewt t hct h2).1, t, k, hk', hlv, e⟩
        · have : t < c := h1; omega
      · have hs : (σl t).isSome = true := by rcases g with g | g; exact g; exact absurd g hct
        obtain ⟨k0, hk0⟩ := Option.isSome_iff_exists.1 hs
        obtain ⟨h2, h3⟩ := hl t k0 hk0
        exact .inl ⟨t, k0, h2, h3, (hold t k0 h2).1 ▸ e⟩
    · exact .inl ⟨t, k, hk', hlv, (hold t k hk').1 ▸ e⟩
  have hsub : ∀ b, F.M σ w μ b → F.M (joinσ c σ σl σ') w' μ' b := by
    rintro b (hb | ⟨h1, h2, h3⟩)
    · exact .inl hb
    · refine .inr ⟨h1, by omega, fun hlv => ?_⟩
      rcases hlive b hlv with g | ⟨g, _⟩
      · exact h3 g
      · omega
  have hres : ∀ b, Ctx.M ⟨F.P, 0, w, F.M σ w μ, c, μ, σl⟩ σ' w' μ' b → F.M (joinσ c σ σl σ') w' μ' b := by
    rintro b (⟨_, hb⟩ | ⟨h1, h2, h3⟩)
    · exact hsub b hb
    · have h1' : w.heap.size ≤ b := h1
      refine .inr ⟨Nat.le_trans h.moved.size h1', h2, fun hlv => ?_⟩
      rcases hlive b hlv with ⟨t, k, hk, _, e⟩ | ⟨_, g⟩
      · have := (h.lt hk).2; omega
      · exact h3 g
  refine ⟨⟨h.good, ⟨h'.moved.os.trans h.moved.os, h'.moved.tape.trans h.moved.tape, h'.moved.output.trans h.moved.output, Nat.le_trans h.moved.size hsz, h.moved.grows.trans h'.moved.grows, fun b hb hne => ?_⟩, Nat.le_trans h.c0 hc, fun t ht => ?_, fun t h1 h2 => ?_, fun t t' h1 h2 h1' h2' e => ?_, fun t k hk => ?_, fun t ht => ?_, fun t k hk => ?_⟩, hsame, hsub, hmu, hc, h'.moved.grows, hres⟩
  · rw [← h.moved.block b hb hne]
    refine hblock b (Nat.lt_of_lt_of_le hb h.moved.size) fun t ht e => ?_
    obtain ⟨k, _, h2, _⟩ := hlb t ht
    rcases h.dom t k h2 with ⟨g1, g2⟩ | ⟨g1, g2, _⟩
    · have := (h.tok t g1 g2).1; omega
    · exact hne t g2 (by rw [← h.mu0 t g1]; exact e)
  · rw [hmu t (Nat.lt_of_lt_of_le ht h.c0)]; exact h.mu0 t ht
  · by_cases hct : c ≤ t
    · obtain ⟨g1, g2, g3⟩ := h'.tok t hct h2
      exact ⟨Nat.le_trans h.moved.size g1, g2, g3⟩
    · have hct' : t < c := by omega
      rw [hmu t hct']
      obtain ⟨g1, g2, arr, T, g3, g3'⟩ := h.tok t h1 hct'
      refine ⟨g1, by omega, ?_⟩
      by_cases hs : ∃ t', σl t' ≠ none ∧ μ t' = μ t
      · obtain ⟨t', ht', e⟩ := hs
        obtain ⟨k', hk'⟩ := h'.lent t' ht'
        obtain ⟨arr', T', g4, _, g5, _⟩ := h'.blk t' k' hk'
        have ht'c : t' < c := by obtain ⟨k, _, h2, _⟩ := hlb t' ht'; exact (h.lt h2).1
        rw [hmu t' ht'c, e] at g4
        exact ⟨arr', T', g4, g5⟩
      · exact ⟨arr, T, by rw [hblock _ g2 fun t' ht' e => hs ⟨t', ht', e⟩]; exact g3, g3'⟩
  · by_cases hct : c ≤ t <;> by_cases hct' : c ≤ t'
    · exact h'.inj t t' hct h2 hct' h2' e
    · have g1 := hnewt t hct h2
      have g2 := (h.tok t' h1' (by omega)).2.1
      rw [hmu t' (by omega)] at e; omega
    · have g1 := hnewt t' hct' h2'
      have g2 := (h.tok t h1 (by omega)).2.1
      rw [hmu t (by omega)] at e; omega
    · rw [hmu t (by omega), hmu t' (by omega)] at e
      exact h.inj t t' h1 (by omega) h1' (by omega) e
  · rcases hj t k hk with ⟨g, hk'⟩ | ⟨g, hk'⟩
    · rcases h'.dom t k hk' with ⟨h1, h2⟩ | ⟨h1, h2, h3⟩
      · exact .inl ⟨Nat.le_trans h.c0 h1, h2⟩
      · obtain ⟨k0, _, h4, h5⟩ := hlb t h2
        rcases h.dom t k0 h4 with ⟨h6, h7⟩ | ⟨h6, h7, _⟩
        · exact .inl ⟨h6, by omega⟩
        · exact .inr ⟨h6, h7, h3⟩
    · rcases h.dom t k hk' with ⟨h6, h7⟩ | ⟨h6, h7, h8⟩
      · exact .inl ⟨h6, by omega⟩
      · exact .inr ⟨h6, h7, h8⟩
  · obtain ⟨k, hk⟩ := h.lent t ht
    unfold joinσ
    split
    · rename_i g
      have : (σl t).isSome = true := by
        rcases g with g | g
        · exact g
        · have := (h.lt hk).1; omega
      exact h'.lent t (by intro e; have e' : σl t = none := e; rw [e'] at this; cases this)
    · exact ⟨k, hk⟩
  · rcases hj t k hk with ⟨g, hk'⟩ | ⟨g, hk'⟩
    · obtain ⟨arr, T, g1, g2, g2', g3⟩ := h'.blk t k hk'
      exact ⟨arr, T, g1, g2, g2', fun i x v hx hv => (g3 i x v hx hv).mono (fun _ _ => rfl) hres (fun _ _ _ => rfl) (Nat.le_refl _)⟩
    · obtain ⟨arr, T, g1, g2, g2', g3⟩ := h.blk t k hk'
      obtain ⟨g4, g5⟩ := hold t k hk'
      rw [g4]
      refine ⟨arr, T, ?_, g2, g2', fun i x v hx hv => (g3 i x v hx hv).mono hsame hsub (fun t ht _ => hmu t ht) hc⟩
      rw [hblock _ g5 fun t' ht' e => ?_]
      · exact g1
      · obtain ⟨k', hk1, hk2, _⟩ := hlb t' ht'
        have := h.muinj hk2 hk' e
        subst this
        exact g (.inl (by simp [hk1]))
end Go.VM
