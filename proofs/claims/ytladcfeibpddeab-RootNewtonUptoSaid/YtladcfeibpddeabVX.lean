import Derived.Test.YtladcfeibpddeabVWp
set_option linter.unusedVariables false
set_option linter.unusedSimpArgs false
namespace Go.VM

/-! ### a run of the abstract machine, by numbers -/
section
variable {α : Type}
def fN (n : Nat) (k : Nat → α) : α := match n with | 0 => k 0 | m + 1 => k (Nat.succ m)
theorem fN_eq (n : Nat) (k : Nat → α) : fN n k = k n := by cases n <;> rfl
def fI (n : Int) (k : Int → α) : α := match n with | .ofNat m => fN m fun m => k (.ofNat m) | .negSucc m => fN m fun m => k (.negSucc m)
theorem fI_eq (n : Int) (k : Int → α) : fI n k = k n := by cases n <;> simp only [fI, fN_eq]
def fU (v : Value) (k : Value → α) : α := match v with
  | .int t n => fI n fun n => k (.int t n)
  | .bool true => k (.bool true)
  | .bool false => k (.bool false)
  | v => k v
theorem fU_eq (v : Value) (k : Value → α) : fU v k = k v := by
  unfold fU
  split <;> simp only [fI_eq]
def fL {β : Type} (l : List β) (k : List β → α) : α := match l with | [] => k [] | x :: xs => fL xs fun xs => k (x :: xs)
theorem fL_eq {β : Type} (l : List β) (k : List β → α) : fL l k = k l := by
  induction l generalizing k with
  | nil => rfl
  | cons x xs ih => rw [fL, ih]
def fO (o : Option Nat) (k : Option Nat → α) : α := match o with | none => k none | some n => fN n fun n => k (some n)
theorem fO_eq (o : Option Nat) (k : Option Nat → α) : fO o k = k o := by cases o <;> simp only [fO, fN_eq]
def fT (t : Tok) (k : Tok → α) : α := match t with | .nil => k .nil | .unk => k .unk | .id n => fN n fun n => k (.id n) | .sub n => fN n fun n => k (.sub n)
theorem fT_eq (t : Tok) (k : Tok → α) : fT t k = k t := by cases t <;> simp only [fT, fN_eq]
def fV (v : V) (k : V → α) : α := match v with
  | .any => k .any
  | .lit v => fU v fun v => k (.lit v)
  | .sl t sz l => fT t fun t => fN sz fun sz => fL l fun l => k (.sl t sz l)
  | .buf t off n cap sz => fN t fun t => fN off fun off => fN n fun n => fO cap fun cap => fN sz fun sz => k (.buf t off n cap sz)
  | .ptr t off => fN t fun t => fN off fun off => k (.ptr t off)
  | .eptr l i => fL l fun l => fN i fun i => k (.eptr l i)
  | .agg l => fL l fun l => k (.agg l)
  | .tup l => fL l fun l => k (.tup l)
theorem fV_eq (v : V) (k : V → α) : fV v k = k v := by cases v <;> simp only [fV, fU_eq, fT_eq, fN_eq, fL_eq, fO_eq]
end

def nth (l : List V) (i : Nat) : V := match l, i with | [], _ => .any | x :: _, 0 => x | _ :: xs, i + 1 => nth xs i
theorem nth_getD (l : List V) (i : Nat) : nth l i = l.getD i .any := by
  induction l generalizing i with
  | nil => rfl
  | cons x xs ih => cases i with
    | zero => rfl
    | succ i => rw [nth, ih]; rfl
theorem start_nth (l : List V) : start l = nth l := by funext i; rw [nth_getD]; rfl
theorem nth_append_any (l : List V) (n : Nat) : nth (l ++ List.replicate n .any) = nth l := by
  funext i
  rw [nth_getD, nth_getD, List.getD_eq_getElem?_getD, List.getD_eq_getElem?_getD, List.getElem?_append]
  split
  · rfl
  · rename_i h
    rw [List.getElem?_eq_none (Nat.le_of_not_lt h), List.getElem?_replicate]
    split <;> rfl
def setR {β : Type} (l : List V) (i : Nat) (v : V) (k : List V → Option β) : Option β := match l, i with
  | [], _ => none
  | _ :: xs, 0 => k (v :: xs)
  | x :: xs, i + 1 => setR xs i v fun xs => k (x :: xs)
theorem setR_some {β : Type} {l : List V} {i : Nat} {v : V} {k : List V → Option β} {b : β} (h : setR l i v k = some b) : ∃ l', k l' = some b ∧ nth l' = upd (nth l) i v := by
  induction l generalizing i k with
  | nil => cases h
  | cons x xs ih =>
    cases i with
    | zero =>
      refine ⟨_, h, ?_⟩
      funext j
      cases j with
      | zero => rfl
      | succ j => rfl
    | succ i =>
      obtain ⟨l', h1, h2⟩ := ih h
      refine ⟨x :: l', h1, ?_⟩
      funext j
      cases j with
      | zero => rfl
      | succ j =>
        rw [nth, h2]
        simp [upd, nth]

abbrev BL := List (Nat × Blk)
def lookB (l : BL) (t : Nat) : Option Blk := match l with | [] => none | p :: r => if p.1 = t then some p.2 else lookB r t
def putB (l : BL) (t : Nat) (b : Blk) : BL := match l with | [] => [(t, b)] | p :: r => if p.1 = t then (t, b) :: r else p :: putB r t b
theorem lookB_nil : lookB [] = noBlk := rfl
theorem lookB_put (l : BL) (t : Nat) (b : Blk) : lookB (putB l t b) = supd (lookB l) t (some b) := by
  funext u
  induction l with
  | nil => simp only [putB, lookB, supd]; by_cases e : t = u <;> simp [e, eq_comm]
  | cons p r ih =>
    obtain ⟨t', b'⟩ := p
    simp only [putB]
    by_cases e : t' = t
    · subst e
      simp only [if_true, lookB, supd]
      by_cases e : t' = u
      · simp [e]
      · simp [e, Ne.symm e]
    · simp only [e, if_false, lookB, ih, supd]
      by_cases e1 : t' = u
      · subst e1; simp [e]
      · simp [e1]
def keepB (p : Nat → Bool) (l : BL) : BL := match l with | [] => [] | q :: r => if p q.1 = true then q :: keepB p r else keepB p r
theorem lookB_keep (p : Nat → Bool) (l : BL) (t : Nat) : lookB (keepB p l) t = if p t = true then lookB l t else none := by
  induction l with
  | nil => simp [keepB, lookB]
  | cons q r ih =>
    simp only [keepB]
    by_cases h : p q.1 = true
    · simp only [h, if_true, lookB, ih]
      by_cases e : q.1 = t
      · subst e; simp [h]
      · simp [e]
    · simp only [h, lookB]
      by_cases e : q.1 = t
      · subst e; simp [ih, h]
      · simp [e, ih]
theorem lookB_append (l r : BL) (t : Nat) : lookB (l ++ r) t = match lookB l t with | some b => some b | none => lookB r t := by
  induction l with
  | nil => rfl
  | cons q l ih =>
    simp only [List.cons_append, lookB]
    by_cases e : q.1 = t
    · simp [e]
    · simp [e, ih]

/-- a block's cells, forced -/
def fB {α : Type} (cs : List V) (k : List V → α) : α := fL cs k

structure XS where
  r : List V
  s : BL
  c : Nat
def XS.vs (S : XS) : VS := ⟨nth S.r, lookB S.s, S.c⟩

structure XEff where
  v : V
  s : BL
  c : Nat
  k : Option Nat

/-- the operations that are no calls -/
def xstore (s : BL) (n : Nat) (x v : V) : Option BL :=
  match x, v.cells with
  | .ptr t off, some cs => match lookB s t with
    | some b => if b.live = true ∧ cs.length = n ∧ off + n ≤ b.cells.length then fL (putCells b.cells off cs) fun cs => some (putB s t ⟨cs, true⟩) else none
    | none => none
  | _, _ => none
def xapp (c0 : Nat) (s : BL) (c sz bytes : Nat) (x y : V) : Option XEff :=
  match x with
  | .sl .nil sz0 [] => match vcells sz (lookB s) y with
    | some [] => some ⟨.sl .nil sz0 [], s, c, none⟩
    | some ys => let k := ys.length / sz; if ys.length = k * sz ∧ 0 < k ∧ k * bytes ≤ 281474976710656 ∧ k ≤ 4611686018427387904 then fL ys fun ys => some ⟨.buf c 0 k none sz, putB s c ⟨ys, true⟩, c + 1, none⟩ else none
    | none => none
  | .buf t 0 n cp sz' => match lookB s t, vcells sz (lookB s) y with
    | some b, some ys => let k := ys.length / sz; if sz' = sz ∧ b.live = true ∧ ys.length = k * sz then
        (match cp with
        | some cap => if n + k ≤ cap ∧ (n + k) * sz ≤ b.cells.length then fL (putCells b.cells (n * sz) ys) fun cs => some ⟨.buf t 0 (n + k) (some cap) sz, putB s t ⟨cs, true⟩, c, none⟩
          else if c0 ≤ t ∧ n * sz ≤ b.cells.length ∧ (2 * (n + k)) * bytes ≤ 281474976710656 ∧ n + k ≤ 4611686018427387904 then fL (b.cells.take (n * sz) ++ ys) fun cs => some ⟨.buf t 0 (n + k) none sz, putB s t ⟨cs, true⟩, c, some t⟩ else none
        | none => if c0 ≤ t ∧ n * sz ≤ b.cells.length ∧ (2 * (n + k)) * bytes ≤ 281474976710656 ∧ n + k ≤ 4611686018427387904 then fL (b.cells.take (n * sz) ++ ys) fun cs => some ⟨.buf t 0 (n + k) none sz, putB s t ⟨cs, true⟩, c, some t⟩ else none)
      else none
    | _, _ => none
  | _ => none
def xcpy (s : BL) (c sz : Nat) (x y : V) : Option XEff :=
  match x with
  | .buf t off n cap sz' => match lookB s t, vcells sz (lookB s) y with
    | some b, some ys => let m := ys.length / sz; if sz' = sz ∧ b.live = true ∧ ys.length = m * sz ∧ off + n * sz ≤ b.cells.length then
        fL (putCells b.cells off (ys.take (min m n * sz))) fun cs => some ⟨.int .i64 ((min m n : Nat) : Int), putB s t ⟨cs, true⟩, c, none⟩ else none
    | _, _ => none
  | _ => none
def xmk (s : BL) (c : Nat) (z : List Value) (bytes : Nat) (l q : V) : Option XEff :=
  match l, q with
  | .lit (.int _ (.ofNat n)), .lit (.int _ (.ofNat cap)) => if n ≤ cap ∧ cap * bytes ≤ 281474976710656 ∧ cap ≤ 9223372036854775807 then fL (rept z cap) fun cs => some ⟨.buf c 0 n (some cap) z.length, putB s c ⟨cs, true⟩, c + 1, none⟩ else none
  | _, _ => none

def xeff (c0 : Nat) (e : X → V) (s : BL) (c : Nat) (o : VOp) : Option XEff :=
  match o with
  | .load ag x => (vload (lookB s) ag (e x)).map fun v => ⟨v, s, c, none⟩
  | .store n x y => (xstore s n (e x) (e y)).map fun s => ⟨.any, s, c, none⟩
  | .mk z bytes l q => xmk s c z bytes (e l) (e q)
  | .box x => match (e x).cells with | some cs => fL cs fun cs => some ⟨.ptr c 0, putB s c ⟨cs, true⟩, c + 1, none⟩ | none => none
  | .alloc z => fL (vlits z) fun cs => some ⟨.ptr c 0, putB s c ⟨cs, true⟩, c + 1, none⟩
  | .bsl tok sz len z ps => match vfill (rept z len) (partsOf e ps) with
    | some cs => if tok = true then some ⟨.sl (.id c) sz cs, s, c + 1, none⟩ else some ⟨.sl .unk sz cs, s, c, none⟩
    | none => none
  | .app sz bytes z x y => xapp c0 s c sz bytes (e x) (e y)
  | .cpy sz x y => xcpy s c sz (e x) (e y)
  | .call _ _ => none
  | .callv _ _ => none
  | .bad => none
  | o => (vpure e o).map fun v => ⟨v, s, c, none⟩

theorem xeff_sound {P : Program} {dr : Bool} {c0 : Nat} {e : X → V} {s : BL} {c : Nat} {o : VOp} {r : XEff} (h : xeff c0 e s c o = some r) : VEff P dr c0 e (lookB s) c o r.v (lookB r.s) r.c r.k := by
  unfold xeff at h
  split at h
  · obtain ⟨v, h1, rfl⟩ := Option.map_eq_some_iff.1 h
    exact .load h1
  · obtain ⟨s', h1, rfl⟩ := Option.map_eq_some_iff.1 h
    refine .store ?_
    unfold xstore at h1
    unfold vstore
    split at h1
    · split at h1
      · split at h1
        · rename_i hb hc
          rw [fL_eq] at h1
          cases h1
          simp only [*, lookB_put]
          rw [if_pos (by first | exact hc | simp [hc])]
        · cases h1
      · cases h1
    · cases h1
  · unfold xmk at h
    split at h
    · rename_i hl hq
      split at h
      · rename_i hc
        rw [fL_eq] at h
        cases h
        rw [lookB_put]
        exact .mk hl hq hc.1 hc.2.1 hc.2.2
      · cases h
    · cases h
  · split at h
    · rename_i hc
      rw [fL_eq] at h
      cases h
      rw [lookB_put]
      exact .box hc
    · cases h
  · rw [fL_eq] at h
    cases h
    rw [lookB_put]
    exact .alloc
  · split at h
    · rename_i hc
      split at h
      · rename_i ht; subst ht; cases h; exact .bsl hc
      · rename_i ht
        simp at ht
        subst ht; cases h; exact .bsl0 hc
    · cases h
  · rename_i sz bytes z x y
    unfold xapp at h
    split at h
    · rename_i hx
      split at h
      · rename_i hy
        cases h
        exact .appNil0 hx hy
      · rename_i ys _ hy
        dsimp only at h
        split at h
        · rename_i hc
          rw [fL_eq] at h
          cases h
          rw [lookB_put]
          exact .appNil hx hy hc.1 hc.2.1 hc.2.2.1 hc.2.2.2
        · cases h
      · cases h
    · rename_i t n cp sz' hx
      split at h
      · rename_i b ys hb hy
        dsimp only at h
        split at h
        · rename_i hc
          obtain ⟨rfl, hl, hk⟩ := hc
          have hb' : lookB s t = some ⟨b.cells, true⟩ := by rw [hb, ← hl]
          split at h
          · rename_i cap
            split at h
            · rename_i hf
              rw [fL_eq] at h
              cases h
              rw [lookB_put]
              exact .appFit hx hb' hy hk hf.1 hf.2
            · split at h
              · rename_i hf
                rw [fL_eq] at h
                cases h
                rw [lookB_put]
                exact .appMove hx hb' hf.1 hy hk hf.2.1 hf.2.2.1 hf.2.2.2
              · cases h
          · split at h
            · rename_i hf
              rw [fL_eq] at h
              cases h
              rw [lookB_put]
              exact .appMove hx hb' hf.1 hy hk hf.2.1 hf.2.2.1 hf.2.2.2
            · cases h
        · cases h
      · cases h
    · cases h
  · unfold xcpy at h
    split at h
    · rename_i t off n cap sz' hx
      split at h
      · rename_i b ys hb hy
        dsimp only at h
        split at h
        · rename_i hc
          obtain ⟨rfl, hl, hk, hf⟩ := hc
          have hb' : lookB s t = some ⟨b.cells, true⟩ := by rw [hb, ← hl]
          rw [fL_eq] at h
          cases h
          rw [lookB_put]
          exact .cpy hx hb' hy hk hf
        · cases h
      · cases h
    · cases h
  · cases h
  · cases h
  · cases h
  · obtain ⟨v, h1, rfl⟩ := Option.map_eq_some_iff.1 h
    exact .pure h1

/-- a slot that holds a buffer of the call's own: written no more -/
def frz1 {β : Type} (c0 : Nat) (i : Nat) (S : XS) (k : XS → Option β) : Option β :=
  match nth S.r i with
  | .buf t off n cap sz => if c0 ≤ t then (match lookB S.s t with
      | some b => if off + n * sz ≤ b.cells.length then fL ((b.cells.drop off).take (n * sz)) fun l => setR S.r i (.sl (Tok.from off t) sz l) fun r => k ⟨r, putB S.s t ⟨b.cells, false⟩, S.c⟩ else none
      | none => none) else k S
  | _ => k S
theorem frz1_some {β : Type} {c0 i : Nat} {S : XS} {k : XS → Option β} {b : β} (h : frz1 c0 i S k = some b) : ∃ S1, k S1 = some b ∧ (S1 = S ∨ ∃ t off n sz cap cells lv, S.vs.ρ i = .buf t off n cap sz ∧ S.vs.σ t = some ⟨cells, lv⟩ ∧ c0 ≤ t ∧ off + n * sz ≤ cells.length ∧ S1.vs = frozen S.vs i t off sz cells ((cells.drop off).take (n * sz))) := by
  unfold frz1 at h
  split at h
  · rename_i t off n cap sz hi
    split at h
    · rename_i h0
      split at h
      · rename_i bk hb
        split at h
        · rename_i hl
          rw [fL_eq] at h
          obtain ⟨r, h1, h2⟩ := setR_some h
          refine ⟨_, h1, .inr ⟨t, off, n, sz, cap, bk.cells, bk.live, hi, hb, h0, hl, ?_⟩⟩
          simp only [XS.vs, frozen, h2, lookB_put]
        · cases h
      · cases h
    · exact ⟨S, h, .inl rfl⟩
  · exact ⟨S, h, .inl rfl⟩
def frzL {β : Type} (c0 : Nat) (l : List Nat) (S : XS) (k : XS → Option β) : Option β := match l with | [] => k S | i :: r => frz1 c0 i S fun S => frzL c0 r S k

theorem frzL_steps {β : Type} {P : Program} {c0 : Nat} {l : List Nat} {S : XS} {k : XS → Option β} {b : β} (h : frzL c0 l S k = some b) : ∃ S1 : XS, k S1 = some b ∧ ∀ ops S', VSteps P false c0 ops S1.vs S' → VSteps P false c0 ops S.vs S' := by
  induction l generalizing S with
  | nil => exact ⟨S, h, fun _ _ h => h⟩
  | cons i r ih =>
    obtain ⟨S1, h1, h2⟩ := frz1_some h
    obtain ⟨S2, h3, h4⟩ := ih h1
    refine ⟨S2, h3, fun ops S' hs => ?_⟩
    have h5 := h4 ops S' hs
    rcases h2 with rfl | ⟨t, off, n, sz, cap, cells, lv, g1, g2, g3, g4, g5⟩
    · exact h5
    · exact .frz rfl g1 g2 g3 g4 (by rw [← g5]; exact h5)
theorem frzL_exec {β : Type} {P : Program} {c0 : Nat} {l : List Nat} {S : XS} {k : XS → Option β} {b : β} (h : frzL c0 l S k = some b) : ∃ S1 : XS, k S1 = some b ∧ ∀ vc e S', VExec P c0 vc S1.vs e S' → VExec P c0 vc S.vs e S' := by
  induction l generalizing S with
  | nil => exact ⟨S, h, fun _ _ _ h => h⟩
  | cons i r ih =>
    obtain ⟨S1, h1, h2⟩ := frz1_some h
    obtain ⟨S2, h3, h4⟩ := ih h1
    refine ⟨S2, h3, fun vc e S' hs => ?_⟩
    have h5 := h4 vc e S' hs
    rcases h2 with rfl | ⟨t, off, n, sz, cap, cells, lv, g1, g2, g3, g4, g5⟩
    · exact h5
    · exact .freeze g1 g2 g3 g4 (by rw [← g5]; exact h5)

/-- the live blocks that a call's arguments lie in -/
def lentB (s : BL) (l : List V) : BL := match l with
  | [] => []
  | .buf t _ _ _ _ :: r => (match lookB s t with | some b => if b.live = true then putB (lentB s r) t b else lentB s r | none => lentB s r)
  | .ptr t _ :: r => (match lookB s t with | some b => if b.live = true then putB (lentB s r) t b else lentB s r | none => lentB s r)
  | _ :: r => lentB s r
theorem lentB_ok (s : BL) (l : List V) (t : Nat) (b : Blk) (h : lookB (lentB s l) t = some b) : lookB s t = some b ∧ b.live = true := by
  have key : ∀ (t : Nat) (b : Blk) (r : List V) (t' : Nat), (∀ t b, lookB (lentB s r) t = some b → lookB s t = some b ∧ b.live = true) →
      lookB (match lookB s t' with | some b => if b.live = true then putB (lentB s r) t' b else lentB s r | none => lentB s r) t = some b → lookB s t = some b ∧ b.live = true := by
    intro t b r t' ih h
    split at h
    · rename_i b' hb
      split at h
      · rename_i hl
        rw [lookB_put] at h
        simp only [supd] at h
        split at h
        · rename_i e; subst e; cases h; exact ⟨hb, hl⟩
        · exact ih _ _ h
      · exact ih _ _ h
    · exact ih _ _ h
  revert t b
  induction l with
  | nil => intro t b h; cases h
  | cons x r ih =>
    intro t b h
    cases x with
    | buf t' off n cap sz => exact key t b r t' (fun t b h => ih t b h) h
    | ptr t' off => exact key t b r t' (fun t b h => ih t b h) h
    | any => exact ih t b h
    | lit _ => exact ih t b h
    | sl _ _ _ => exact ih t b h
    | eptr _ _ => exact ih t b h
    | agg _ => exact ih t b h
    | tup _ => exact ih t b h

structure XRes where
  v : V
  s : BL
  c : Nat
abbrev XCall := FuncId → List V → BL → Nat → Option XRes
def CallOk (P : Program) (call : XCall) : Prop := ∀ f xs sl c r, call f xs sl c = some r → VCalls P f c (lookB sl) xs r.v (lookB r.s) r.c ∧ ∀ t, lookB sl t = none → lookB r.s t = none

def xput {β : Type} (d : Option Nat) (v : V) (r : List V) (k : List V → Option β) : Option β := match d with | none => k r | some i => fV v fun v => setR r i v k
theorem xput_some {β : Type} {d : Option Nat} {v : V} {r : List V} {k : List V → Option β} {b : β} (h : xput d v r k = some b) : ∃ r', k r' = some b ∧ nth r' = updo (nth r) d v := by
  cases d with
  | none => exact ⟨r, h, rfl⟩
  | some i =>
    simp only [xput, fV_eq] at h
    exact setR_some h

def killR (t : Nat) (l : List V) : List V := match l with | [] => [] | x :: xs => killV t x :: killR t xs
theorem nth_kill (t : Nat) (l : List V) : nth (killR t l) = kill (some t) (nth l) := by
  funext i
  induction l generalizing i with
  | nil => rfl
  | cons x xs ih =>
    cases i with
    | zero => rfl
    | succ i => exact ih i

/-- a call in a region -/
def xcallop {β : Type} (call : XCall) (dr : Bool) (lend : FuncId → Bool) (c0 : Nat) (f : FuncId) (xs : List X) (d : Option Nat) (S : XS) (k : XS → Option β) : Option β :=
  (if dr = true ∨ lend f = true then fun k => k S else frzL c0 (xs.flatMap X.reads) S) fun S =>
    let ys := xs.map (X.ev (nth S.r))
    let sl := if dr = true then [] else lentB S.s ys
    match sl with
    | [] => (match call f ys [] S.c with
      | some ⟨v, _, c'⟩ => fN c' fun c' => xput d v S.r fun r => k ⟨r, S.s, c'⟩
      | none => none)
    | sl => (match call f ys sl S.c with
      | some ⟨v, s', c'⟩ => fN c' fun c' => fL (keepB (fun t => !((lookB sl t).isSome || decide (S.c ≤ t))) S.s ++ s') fun s => xput d v S.r fun r => k ⟨r, s, c'⟩
      | none => none)

def asFn (v : V) : Option FuncId := match v with | .lit (.func (.func f) a b) => if a.size = 0 ∧ b.size = 0 then some f else none | _ => none
theorem asFn_some {v : V} {f : FuncId} (h : asFn v = some f) : v = .lit (.func (.func f) #[] #[]) := by
  unfold asFn at h
  split at h
  · split at h
    · rename_i f' a b g
      cases h
      rw [Array.eq_empty_of_size_eq_zero g.1, Array.eq_empty_of_size_eq_zero g.2]
    · cases h
  · cases h
def xstep {β : Type} (call : XCall) (dr : Bool) (lend : FuncId → Bool) (c0 : Nat) (op : VOp) (d : Option Nat) (S : XS) (k : XS → Option β) : Option β :=
  match op with
  | .call f xs => xcallop call dr lend c0 f xs d S k
  | .callv x xs => (if dr = true then fun k => k S else frzL c0 (xs.flatMap X.reads) S) fun S =>
      (match asFn (x.ev (nth S.r)) with
      | some f => (match call f (xs.map (X.ev (nth S.r))) [] S.c with
        | some ⟨v, _, c'⟩ => fN c' fun c' => xput d v S.r fun r => k ⟨r, S.s, c'⟩
        | none => none)
      | none => none)
  | op => (if dr = true then fun k => k S else (match op with | .build .. | .bsl .. | .store .. | .box .. => frzL c0 op.reads S | _ => fun k => k S)) fun S =>
    (match xeff c0 (X.ev (nth S.r)) S.s S.c op with
    | some ⟨v, s, c, none⟩ => xput d v S.r fun r => k ⟨r, s, c⟩
    | some ⟨v, s, c, some t⟩ => fL (killR t S.r) fun r => xput d v r fun r => k ⟨r, s, c⟩
    | none => none)

def xops (call : XCall) (dr : Bool) (lend : FuncId → Bool) (c0 : Nat) (l : List VO) (S : XS) : Option XS :=
  match l with
  | [] => some S
  | ⟨d, op, none⟩ :: r => xstep call dr lend c0 op d S fun S => xops call dr lend c0 r S
  | ⟨d, op, some (t, b)⟩ :: r => match nth S.r t with
    | .lit (.bool b') => if b' = b then xstep call dr lend c0 op d S fun S => xops call dr lend c0 r S else xput d (.tup []) S.r fun rr => xops call dr lend c0 r ⟨rr, S.s, S.c⟩
    | .tup [] => xput d (.tup []) S.r fun rr => xops call dr lend c0 r ⟨rr, S.s, S.c⟩
    | _ => none

structure XOut where
  e : VEx
  S : XS
def frzOf (l : List VO) : List Nat := l.flatMap fun o => match o.op with | .call .. | .callv .. | .build .. | .bsl .. | .store .. | .box .. => o.op.reads | _ => []
def xrun (call : XCall) (lend : FuncId → Bool) (rsl : List Nat) (c0 : Nat) (n : Nat) (vc : VC) (S : XS) : Option XOut :=
  match n with
  | 0 => none
  | n + 1 => match vc with
    | .skip => some ⟨.normal, S⟩
    | .region dr ops => (if dr = true then frzL c0 (frzOf ops) S else fun k => k S) fun S =>
      (match xops call dr lend c0 ops S with | some S => some ⟨.normal, S⟩ | none => none)
    | .seq a b => match xrun call lend rsl c0 n a S with
      | some ⟨.normal, S⟩ => xrun call lend rsl c0 n b S
      | r => r
    | .cond x a b => match x.ev (nth S.r) with
      | .lit (.bool true) => xrun call lend rsl c0 n a S
      | .lit (.bool false) => xrun call lend rsl c0 n b S
      | _ => none
    | .block id b => match xrun call lend rsl c0 n b S with
      | some ⟨.exit j, S⟩ => if j = id then some ⟨.normal, S⟩ else some ⟨.exit j, S⟩
      | r => r
    | .loop b => match xrun call lend rsl c0 n b S with
      | some ⟨.normal, S⟩ => xrun call lend rsl c0 n (.loop b) S
      | r => r
    | .exit id => some ⟨.exit id, S⟩
    | .ret => frzL c0 rsl S fun S => some ⟨.ret, S⟩
    | .bad => none

structure XFun where
  f : FuncId
  vc : VC
  rs : List VRes
  n : Nat
def findF (l : List XFun) (f : FuncId) : Option XFun := match l with | [] => none | e :: r => if Nat.beq e.f f = true then some e else findF r f
def resSlots : List VRes → List Nat | [] => [] | .tmp t :: r => t :: resSlots r | _ :: r => resSlots r

/-- what is known of a call without running it: 'f xs' answers this, whoever calls -/
abbrev XOrc := FuncId → List V → Option V
def OrcOk (P : Program) (orc : XOrc) : Prop := ∀ f xs v, orc f xs = some v → ∀ c, VCallP P f c xs v c
def askO (orc : XOrc) (f : FuncId) (xs : List V) (sl : BL) : Option V := match sl with | [] => orc f xs | _ => none

def xcall (orc : XOrc) (T : List XFun) (lend : FuncId → Bool) (rounds : Nat) : Nat → XCall
  | 0 => fun _ _ _ _ => none
  | n + 1 => fun f xs sl c => match findF T f with
    | none => none
    | some ⟨_, vc, rs, m⟩ => match askO orc f xs sl with
    | some v => some ⟨v, [], c⟩
    | none => if xs.length ≤ m then
      (match fL (xs ++ List.replicate (m - xs.length) .any) fun r => xrun (xcall orc T lend rounds n) lend (resSlots rs) c rounds vc ⟨r, sl, c⟩ with
      | some ⟨.exit _, _⟩ => none
      | some ⟨e, S⟩ => (match vresult S.vs rs with | some v => some ⟨v, keepB (fun t => (lookB sl t).isSome) S.s, S.c⟩ | none => none)
      | none => none) else none

/-! ### it is right -/
def GoodF (P : Program) (e : XFun) : Prop := ∃ fn code, P.funcs[e.f]? = some fn ∧ fn.body = some code ∧ resCode P fn.ntmps code = e.vc ∧ resResults P fn.results.toList = some e.rs ∧ fn.ntmps = e.n ∧ (fn.name == "runtime.NumGoroutine") = false


def Fz (P : Program) (dr : Bool) (c0 : Nat) (S S0 : XS) : Prop := (∀ ops S', VSteps P dr c0 ops S0.vs S' → VSteps P dr c0 ops S.vs S') ∧ ∀ t v, nth S.r t = .lit v → nth S0.r t = .lit v
theorem Fz.refl {P : Program} {dr : Bool} {c0 : Nat} {S : XS} : Fz P dr c0 S S := ⟨fun _ _ h => h, fun _ _ h => h⟩
theorem frzL_fz {β : Type} {P : Program} {c0 : Nat} {l : List Nat} {S : XS} {k : XS → Option β} {b : β} (h : frzL c0 l S k = some b) : ∃ S1 : XS, k S1 = some b ∧ Fz P false c0 S S1 := by
  induction l generalizing S with
  | nil => exact ⟨S, h, Fz.refl⟩
  | cons i r ih =>
    obtain ⟨S1, h1, h2⟩ := frz1_some h
    obtain ⟨S2, h3, h4, h6⟩ := ih h1
    rcases h2 with rfl | ⟨t, off, n, sz, cap, cells, lv, g1, g2, g3, g4, g5⟩
    · exact ⟨S2, h3, h4, h6⟩
    · refine ⟨S2, h3, fun ops S' hs => .frz rfl g1 g2 g3 g4 (by rw [← g5]; exact h4 ops S' hs), fun u v hv => h6 u v ?_⟩
      have e : nth S1.r u = upd (nth S.r) i (.sl (Tok.from off t) sz ((cells.drop off).take (n * sz))) u := congrFun (congrArg VS.ρ g5) u
      rw [e]
      simp only [upd]
      split
      · rename_i e; subst e
        have g1' : nth S.r u = _ := g1
        rw [hv] at g1'; cases g1'
      · exact hv
theorem fz_if {β : Type} {P : Program} {dr : Bool} {c0 : Nat} {p : Prop} [Decidable p] (hp : dr = true → p) {l : List Nat} {S : XS} {k : XS → Option β} {b : β} (h : (if p then fun k => k S else frzL c0 l S) k = some b) : ∃ S1 : XS, k S1 = some b ∧ Fz P dr c0 S S1 := by
  split at h
  · exact ⟨S, h, Fz.refl⟩
  · rename_i g
    cases dr with
    | true => exact absurd (hp rfl) g
    | false => exact frzL_fz h

theorem joinB (c : Nat) (s sl s' : BL) (h : ∀ t, lookB sl t = none → lookB s' t = none) : lookB (keepB (fun t => !((lookB sl t).isSome || decide (c ≤ t))) s ++ s') = joinσ c (lookB s) (lookB sl) (lookB s') := by
  funext t
  rw [lookB_append, lookB_keep]
  unfold joinσ
  by_cases e1 : (lookB sl t).isSome = true
  · simp [e1]
  · have e1' : lookB sl t = none := by simpa using e1
    by_cases e2 : c ≤ t
    · simp [e1, e2]
    · simp only [e1', Option.isSome_none, Bool.false_or, e2, decide_false, Bool.not_false, if_true, Bool.false_eq_true, or_self, if_false]
      rw [h t e1']
      cases lookB s t <;> rfl

theorem xcallop_sound {β : Type} {P : Program} {call : XCall} (hc : CallOk P call) {dr : Bool} {lend : FuncId → Bool} {c0 : Nat} {f : FuncId} {xs : List X} {d : Option Nat} {S : XS} {k : XS → Option β} {b : β} (h : xcallop call dr lend c0 f xs d S k = some b) :
    ∃ (S0 S1 : XS) (v : V) (σ' : Nat → Option Blk) (c' : Nat) (kt : Option Nat), Fz P dr c0 S S0 ∧ VEff P dr c0 (X.ev S0.vs.ρ) S0.vs.σ S0.vs.c (.call f xs) v σ' c' kt ∧ S1.vs = ⟨updo (kill kt S0.vs.ρ) d v, σ', c'⟩ ∧ k S1 = some b := by
  unfold xcallop at h
  obtain ⟨S0, h, hz⟩ := fz_if (P := P) (dr := dr) (fun e => .inl e) h
  dsimp only at h
  split at h
  · split at h
    · rename_i v s' c' hcl
      rw [fN_eq] at h
      obtain ⟨r', h1, h2⟩ := xput_some h
      obtain ⟨g1, g2⟩ := hc _ _ _ _ _ hcl
      have e : lookB s' = noBlk := funext fun t => g2 t rfl
      rw [lookB_nil] at g1
      dsimp only at g1
      rw [e] at g1
      exact ⟨S0, _, v, _, c', none, hz, .callp g1, by simp only [XS.vs, h2]; rfl, h1⟩
    · cases h
  · rename_i sl hsl
    split at h
    · rename_i v s' c' hcl
      rw [fN_eq, fL_eq] at h
      obtain ⟨r', h1, h2⟩ := xput_some h
      obtain ⟨g1, g2⟩ := hc _ _ _ _ _ hcl
      have hdr : dr = false := by
        cases dr with
        | false => rfl
        | true => exact absurd (by simp) hsl
      subst hdr
      simp only [Bool.false_eq_true, if_false] at *
      refine ⟨S0, _, v, _, c', none, hz, .call rfl (fun t k hk => lentB_ok _ _ t k hk) g1, ?_, h1⟩
      simp only [XS.vs, h2]
      rw [joinB _ _ _ _ g2]
      rfl
    · cases h

theorem xeffop {β : Type} {P : Program} {dr : Bool} {c0 : Nat} {op : VOp} {d : Option Nat} {S : XS} {k : XS → Option β} {b : β}
    (h : (match xeff c0 (X.ev (nth S.r)) S.s S.c op with
    | some ⟨v, s, c, none⟩ => xput d v S.r fun r => k ⟨r, s, c⟩
    | some ⟨v, s, c, some t⟩ => fL (killR t S.r) fun r => xput d v r fun r => k ⟨r, s, c⟩
    | none => none) = some b) :
    ∃ (S1 : XS) (v : V) (σ' : Nat → Option Blk) (c' : Nat) (kt : Option Nat), VEff P dr c0 (X.ev S.vs.ρ) S.vs.σ S.vs.c op v σ' c' kt ∧ S1.vs = ⟨updo (kill kt S.vs.ρ) d v, σ', c'⟩ ∧ k S1 = some b := by
  split at h
  · rename_i v s c hx
    obtain ⟨r', h1, h2⟩ := xput_some h
    exact ⟨_, v, _, c, none, xeff_sound hx, by simp only [XS.vs, h2]; rfl, h1⟩
  · rename_i v s c t hx
    rw [fL_eq] at h
    obtain ⟨r', h1, h2⟩ := xput_some h
    exact ⟨_, v, _, c, some t, xeff_sound hx, by simp only [XS.vs, h2, nth_kill], h1⟩
  · cases h

theorem xstep_sound {β : Type} {P : Program} {call : XCall} (hc : CallOk P call) {dr : Bool} {lend : FuncId → Bool} {c0 : Nat} {op : VOp} {d : Option Nat} {S : XS} {k : XS → Option β} {b : β}
    (hfn : ∀ x xs, op = .callv x xs → ∀ f r, call f (xs.map (X.ev (nth S.r))) [] S.c = some r → True)
    (hnm : ∀ f xs sl c r, call f xs sl c = some r → ∃ fn b, P.funcs[f]? = some fn ∧ (fn.name == "runtime.NumGoroutine") = false ∧ fn.body = some b) (h : xstep call dr lend c0 op d S k = some b) :
    ∃ (S0 S1 : XS) (v : V) (σ' : Nat → Option Blk) (c' : Nat) (kt : Option Nat), Fz P dr c0 S S0 ∧ VEff P dr c0 (X.ev S0.vs.ρ) S0.vs.σ S0.vs.c op v σ' c' kt ∧ S1.vs = ⟨updo (kill kt S0.vs.ρ) d v, σ', c'⟩ ∧ k S1 = some b := by
  unfold xstep at h
  split at h
  · exact xcallop_sound hc h
  · rename_i x xs
    obtain ⟨S0, h, hz⟩ := fz_if (P := P) (dr := dr) (fun e => e) h
    split at h
    · rename_i f hx
      split at h
      · rename_i v s' c' hcl
        rw [fN_eq] at h
        obtain ⟨r', h1, h2⟩ := xput_some h
        obtain ⟨g1, g2⟩ := hc _ _ _ _ _ hcl
        have e : lookB s' = noBlk := funext fun t => g2 t rfl
        rw [lookB_nil] at g1
        dsimp only at g1
        rw [e] at g1
        exact ⟨S0, _, v, _, c', none, hz, .callv (asFn_some hx) (hnm _ _ _ _ _ hcl) g1, by simp only [XS.vs, h2]; rfl, h1⟩
      · cases h
    · cases h
  · obtain ⟨S0, h, hz⟩ : ∃ S1 : XS, (match xeff c0 (X.ev (nth S1.r)) S1.s S1.c op with
        | some ⟨v, s, c, none⟩ => xput d v S1.r fun r => k ⟨r, s, c⟩
        | some ⟨v, s, c, some t⟩ => fL (killR t S1.r) fun r => xput d v r fun r => k ⟨r, s, c⟩
        | none => none) = some b ∧ Fz P dr c0 S S1 := by
      cases dr with
      | true => exact ⟨S, by simpa using h, Fz.refl⟩
      | false =>
        simp only [Bool.false_eq_true, if_false] at h
        split at h
        all_goals first | exact frzL_fz h | exact ⟨S, h, Fz.refl⟩
    obtain ⟨S1, v, σ', c', kt, g1, g2, g3⟩ := xeffop (P := P) (dr := dr) h
    exact ⟨S0, S1, v, σ', c', kt, hz, g1, g2, g3⟩

theorem xops_sound {P : Program} {call : XCall} (hc : CallOk P call) (hnm : ∀ f xs sl c r, call f xs sl c = some r → ∃ fn b, P.funcs[f]? = some fn ∧ (fn.name == "runtime.NumGoroutine") = false ∧ fn.body = some b) {dr : Bool} {lend : FuncId → Bool} {c0 : Nat} {l : List VO} {S S' : XS} (h : xops call dr lend c0 l S = some S') :
    VSteps P dr c0 l S.vs S'.vs := by
  induction l generalizing S with
  | nil => cases h; exact .nil _
  | cons o r ih =>
    obtain ⟨d, op, g⟩ := o
    have run : ∀ g : Option (Nat × Bool), (∀ t b, g = some (t, b) → nth S.r t = .lit (.bool b)) → xstep call dr lend c0 op d S (fun S => xops call dr lend c0 r S) = some S' → VSteps P dr c0 (⟨d, op, g⟩ :: r) S.vs S'.vs := by
      intro g hg h
      obtain ⟨S0, S1, v, σ', c', kt, hz, h1, h2, h3⟩ := xstep_sound hc (fun _ _ _ _ _ _ => trivial) hnm h
      refine hz.1 _ _ (.cons (.run (fun t b e => hz.2 _ _ (hg t b e)) h1) ?_)
      rw [← h2]
      exact ih h3
    cases g with
    | none => exact run none (fun t b e => by cases e) h
    | some tb =>
      obtain ⟨t, b⟩ := tb
      have skip : skips (nth S.r t) b → (xput d (.tup []) S.r fun rr => xops call dr lend c0 r ⟨rr, S.s, S.c⟩) = some S' → VSteps P dr c0 (⟨d, op, some (t, b)⟩ :: r) S.vs S'.vs := by
        intro hs h
        obtain ⟨r', h1, h2⟩ := xput_some h
        refine .cons (.skip rfl hs) ?_
        have := ih h1
        simp only [XS.vs, h2] at this
        exact this
      simp only [xops] at h
      split at h
      · rename_i b' hb
        split at h
        · rename_i e
          subst e
          exact run _ (fun t' b'' e => by cases e; exact hb) h
        · rename_i e
          exact skip (.inl ⟨b', hb, e⟩) h
      · rename_i hb
        exact skip (.inr hb) h
      · cases h

theorem xrun_sound {P : Program} {call : XCall} (hc : CallOk P call) (hnm : ∀ f xs sl c r, call f xs sl c = some r → ∃ fn b, P.funcs[f]? = some fn ∧ (fn.name == "runtime.NumGoroutine") = false ∧ fn.body = some b) {lend : FuncId → Bool} {rsl : List Nat} {c0 : Nat} {n : Nat} {vc : VC} {S : XS} {o : XOut} (h : xrun call lend rsl c0 n vc S = some o) :
    VExec P c0 vc S.vs o.e o.S.vs := by
  induction n generalizing vc S o with
  | zero => cases h
  | succ n ih =>
    unfold xrun at h
    split at h
    · cases h; exact .skip _
    · rename_i dr ops
      have fin : ∀ S0 : XS, (match xops call dr lend c0 ops S0 with | some S => some (⟨.normal, S⟩ : XOut) | none => none) = some o → VExec P c0 (.region dr ops) S0.vs o.e o.S.vs := by
        intro S0 h
        split at h
        · rename_i S1 hS
          cases h
          exact .region (xops_sound hc hnm hS)
        · cases h
      split at h
      · obtain ⟨S0, h1, h2⟩ := frzL_exec (P := P) h
        exact h2 _ _ _ (fin S0 h1)
      · exact fin S h
    · rename_i a b
      split at h
      · rename_i S1 h1
        exact .seq (ih h1) (ih h)
      · rename_i hne
        refine .seqOut (ih h) ?_
        intro e
        obtain ⟨e0, S1⟩ := o
        simp only at e
        subst e
        exact hne S1 h
    · split at h
      · rename_i hx
        exact .cond (t := true) hx (ih h)
      · rename_i hx
        exact .cond (t := false) hx (ih h)
      · cases h
    · split at h
      · rename_i j S1 h1
        split at h
        · rename_i e; subst e; cases h; exact .blockExit (ih h1)
        · rename_i e; cases h; exact .block (ih h1) (fun e' => by cases e'; exact e rfl)
      · rename_i hne
        refine .block (ih h) ?_
        intro e
        obtain ⟨e0, S1⟩ := o
        simp only at e
        subst e
        exact hne _ S1 h
    · split at h
      · rename_i S1 h1
        exact .loop (ih h1) (ih h)
      · rename_i hne
        refine .loopOut (ih h) ?_
        intro e
        obtain ⟨e0, S1⟩ := o
        simp only at e
        subst e
        exact hne S1 h
    · cases h; exact .exit _ _
    · obtain ⟨S0, h1, h2⟩ := frzL_exec (P := P) h
      cases h1
      exact h2 _ _ _ (.ret _)
    · cases h

theorem findF_some {T : List XFun} {f : FuncId} {e : XFun} (h : findF T f = some e) : e ∈ T ∧ e.f = f := by
  induction T with
  | nil => cases h
  | cons a r ih =>
    simp only [findF] at h
    split at h
    · rename_i g
      cases h
      exact ⟨List.mem_cons_self, Nat.eq_of_beq_eq_true g⟩
    · obtain ⟨h1, h2⟩ := ih h
      exact ⟨List.mem_cons_of_mem _ h1, h2⟩

theorem xcall_sound {P : Program} (hm : P.follows .mixedOrders = true) {orc : XOrc} (ho : OrcOk P orc) {T : List XFun} (hT : ∀ e ∈ T, GoodF P e) {lend : FuncId → Bool} {rounds : Nat} (n : Nat) : CallOk P (xcall orc T lend rounds n) ∧ ∀ f xs sl c r, xcall orc T lend rounds n f xs sl c = some r → ∃ fn b, P.funcs[f]? = some fn ∧ (fn.name == "runtime.NumGoroutine") = false ∧ fn.body = some b := by
  induction n with
  | zero => exact ⟨fun f xs sl c r h => (by cases h), fun f xs sl c r h => (by cases h)⟩
  | succ n ih =>
    constructor
    · intro f xs sl c r h
      simp only [xcall] at h
      split at h
      · cases h
      · rename_i f' vc rs m hf
        obtain ⟨h1, h2⟩ := findF_some hf
        obtain ⟨fn, code, g1, g2, g3, g4, g5, _⟩ := hT _ h1
        dsimp only at h2 g1 g3 g4 g5
        subst h2 g5
        split at h
        · rename_i v hv
          cases h
          cases sl with
          | nil =>
            refine ⟨?_, fun t _ => rfl⟩
            rw [lookB_nil]
            exact ho _ _ _ hv c
          | cons _ _ => cases hv
        split at h
        · rename_i hlen
          split at h
          · cases h
          · rename_i e S hne hr
            rw [fL_eq] at hr
            have hex := xrun_sound ih.1 ih.2 hr
            dsimp only at hex
            have hst : (⟨xs ++ List.replicate (fn.ntmps - xs.length) .any, sl, c⟩ : XS).vs = ⟨start xs, lookB sl, c⟩ := by simp only [XS.vs, nth_append_any, start_nth]
            rw [hst] at hex
            split at h
            · rename_i v hv
              cases h
              have he : e = .ret ∨ e = .normal := by
                cases e with
                | normal => exact .inr rfl
                | ret => exact .inl rfl
                | exit id => exact (hne id rfl).elim
              refine ⟨vcalls_of_exec hm g1 g2 g3 g4 hlen hex he hv (fun t k hk => ?_) (fun t ht => ?_), fun t ht => ?_⟩
              · rw [lookB_keep] at hk
                split at hk
                · exact hk
                · cases hk
              · rw [lookB_keep, if_pos]
                · rfl
                · cases hq : lookB sl t with
                  | none => exact absurd hq ht
                  | some k => rfl
              · dsimp only
                rw [lookB_keep, ht]
                rfl
            · cases h
          · cases h
        · cases h
    · intro f xs sl c r h
      simp only [xcall] at h
      split at h
      · cases h
      · rename_i f' vc rs m hf
        obtain ⟨h1, h2⟩ := findF_some hf
        obtain ⟨fn, code, g1, g2, g3, g4, g5, g6⟩ := hT _ h1
        dsimp only at h2 g1
        subst h2
        exact ⟨fn, code, g1, g6, g2⟩
end Go.VM
namespace Go.VM
theorem xcall_p {P : Program} (hm : P.follows .mixedOrders = true) {orc : XOrc} (ho : OrcOk P orc) {T : List XFun} (hT : ∀ e ∈ T, GoodF P e) {lend : FuncId → Bool} {rounds n c : Nat} {f : FuncId} {xs : List V} {v : V}
    (h : ((xcall orc T lend rounds n f xs [] c).map fun r => r.v) = some v) : ∃ c', VCallP P f c xs v c' := by
  cases hr : xcall orc T lend rounds n f xs [] c with
  | none => rw [hr] at h; cases h
  | some r =>
    rw [hr] at h
    cases h
    obtain ⟨h1, h2⟩ := (xcall_sound hm ho hT (lend := lend) (rounds := rounds) n).1 f xs [] c r hr
    have e : lookB r.s = noBlk := funext fun t => h2 t rfl
    rw [lookB_nil, e] at h1
    exact ⟨_, h1⟩
end Go.VM
