/- Texts of a claim, merged: what they prove is told at the last one's head. -/
import Derived.Test.YtladcfeibpddeabChaM4
import Derived.KernelRfl
set_option linter.unusedVariables false
set_option linter.unusedSimpArgs false
namespace Go.VM

/-! ### a run of the abstract machine, by numbers -/
section
variable {α : Type}
def fN (n : Nat) (k : Nat → α) : α := match n with | 0 => k 0 | m + 1 => k (Nat.succ m)
theorem fN_eq (n : Nat) (k : Nat → α) : fN n k = k n := by cases n <;> rfl
def fI (n : Int) (k : Int → α) : α := match n with | .ofNat m => fN m fun m => k (.ofNat m) | .negSucc m => fN m fun m => k (.negSucc m)
theorem fI_eq (n : Int) (k : Int → α) : fI n k = k n := by cases n <;> simp only [fI, fN_eq]
def fU (v : Value) (k : Value → α) : α := match v with
  | .int t n => fI n fun n => k (.int t n)
  | .bool true => k (.bool true)
  | .bool false => k (.bool false)
  | v => k v
theorem fU_eq (v : Value) (k : Value → α) : fU v k = k v := by
  unfold fU
  split <;> simp only [fI_eq]
def fL {β : Type} (l : List β) (k : List β → α) : α := match l with | [] => k [] | x :: xs => fL xs fun xs => k (x :: xs)
theorem fL_eq {β : Type} (l : List β) (k : List β → α) : fL l k = k l := by
  induction l generalizing k with
  | nil => rfl
  | cons x xs ih => rw [fL, ih]
def fO (o : Option Nat) (k : Option Nat → α) : α := match o with | none => k none | some n => fN n fun n => k (some n)
theorem fO_eq (o : Option Nat) (k : Option Nat → α) : fO o k = k o := by cases o <;> simp only [fO, fN_eq]
def fT (t : Tok) (k : Tok → α) : α := match t with | .nil => k .nil | .unk => k .unk | .id n => fN n fun n => k (.id n) | .sub n => fN n fun n => k (.sub n)
theorem fT_eq (t : Tok) (k : Tok → α) : fT t k = k t := by cases t <;> simp only [fT, fN_eq]
def fV (v : V) (k : V → α) : α := match v with
  | .any => k .any
  | .lit v => fU v fun v => k (.lit v)
  | .sl t sz l => fT t fun t => fN sz fun sz => fL l fun l => k (.sl t sz l)
  | .buf t off n cap sz => fN t fun t => fN off fun off => fN n fun n => fO cap fun cap => fN sz fun sz => k (.buf t off n cap sz)
  | .ptr t off => fN t fun t => fN off fun off => k (.ptr t off)
  | .gptr t off => fN t fun t => fN off fun off => k (.gptr t off)
  | .eptr l i => fL l fun l => fN i fun i => k (.eptr l i)
  | .agg l => fL l fun l => k (.agg l)
  | .tup l => fL l fun l => k (.tup l)
theorem fV_eq (v : V) (k : V → α) : fV v k = k v := by cases v <;> simp only [fV, fU_eq, fT_eq, fN_eq, fL_eq, fO_eq]
end

def nth (l : List V) (i : Nat) : V := match l, i with | [], _ => .any | x :: _, 0 => x | _ :: xs, i + 1 => nth xs i
theorem nth_getD (l : List V) (i : Nat) : nth l i = l.getD i .any := by
  induction l generalizing i with
  | nil => rfl
  | cons x xs ih => cases i with
    | zero => rfl
    | succ i => rw [nth, ih]; rfl
theorem start_nth (l : List V) : start l = nth l := by funext i; rw [nth_getD]; rfl
theorem nth_append_any (l : List V) (n : Nat) : nth (l ++ List.replicate n .any) = nth l := by
  funext i
  rw [nth_getD, nth_getD, List.getD_eq_getElem?_getD, List.getD_eq_getElem?_getD, List.getElem?_append]
  split
  · rfl
  · rename_i h
    rw [List.getElem?_eq_none (Nat.le_of_not_lt h), List.getElem?_replicate]
    split <;> rfl
def setR {β : Type} (l : List V) (i : Nat) (v : V) (k : List V → Option β) : Option β := match l, i with
  | [], _ => none
  | _ :: xs, 0 => k (v :: xs)
  | x :: xs, i + 1 => setR xs i v fun xs => k (x :: xs)
theorem setR_some {β : Type} {l : List V} {i : Nat} {v : V} {k : List V → Option β} {b : β} (h : setR l i v k = some b) : ∃ l', k l' = some b ∧ nth l' = upd (nth l) i v := by
  induction l generalizing i k with
  | nil => cases h
  | cons x xs ih =>
    cases i with
    | zero =>
      refine ⟨_, h, ?_⟩
      funext j
      cases j with
      | zero => rfl
      | succ j => rfl
    | succ i =>
      obtain ⟨l', h1, h2⟩ := ih h
      refine ⟨x :: l', h1, ?_⟩
      funext j
      cases j with
      | zero => rfl
      | succ j =>
        rw [nth, h2]
        simp [upd, nth]

abbrev BL := List (Nat × Blk)
def lookB (l : BL) (t : Nat) : Option Blk := match l with | [] => none | p :: r => if p.1 = t then some p.2 else lookB r t
def putB (l : BL) (t : Nat) (b : Blk) : BL := match l with | [] => [(t, b)] | p :: r => if p.1 = t then (t, b) :: r else p :: putB r t b
theorem lookB_nil : lookB [] = noBlk := rfl
theorem lookB_put (l : BL) (t : Nat) (b : Blk) : lookB (putB l t b) = supd (lookB l) t (some b) := by
  funext u
  induction l with
  | nil => simp only [putB, lookB, supd]; by_cases e : t = u <;> simp [e, eq_comm]
  | cons p r ih =>
    obtain ⟨t', b'⟩ := p
    simp only [putB]
    by_cases e : t' = t
    · subst e
      simp only [if_true, lookB, supd]
      by_cases e : t' = u
      · simp [e]
      · simp [e, Ne.symm e]
    · simp only [e, if_false, lookB, ih, supd]
      by_cases e1 : t' = u
      · subst e1; simp [e]
      · simp [e1]
def keepB (p : Nat → Bool) (l : BL) : BL := match l with | [] => [] | q :: r => if p q.1 = true then q :: keepB p r else keepB p r
theorem lookB_keep (p : Nat → Bool) (l : BL) (t : Nat) : lookB (keepB p l) t = if p t = true then lookB l t else none := by
  induction l with
  | nil => simp [keepB, lookB]
  | cons q r ih =>
    simp only [keepB]
    by_cases h : p q.1 = true
    · simp only [h, if_true, lookB, ih]
      by_cases e : q.1 = t
      · subst e; simp [h]
      · simp [e]
    · simp only [h, lookB]
      by_cases e : q.1 = t
      · subst e; simp [ih, h]
      · simp [e, ih]
theorem lookB_append (l r : BL) (t : Nat) : lookB (l ++ r) t = match lookB l t with | some b => some b | none => lookB r t := by
  induction l with
  | nil => rfl
  | cons q l ih =>
    simp only [List.cons_append, lookB]
    by_cases e : q.1 = t
    · simp [e]
    · simp [e, ih]

/-- a block's cells, forced -/
def fB {α : Type} (cs : List V) (k : List V → α) : α := fL cs k

structure XS where
  r : List V
  s : BL
  c : Nat
def XS.vs (S : XS) : VS := ⟨nth S.r, lookB S.s, S.c⟩

structure XEff where
  v : V
  s : BL
  c : Nat
  k : KT

/-- no buffers in cells -/
def flatB (s : BL) : Bool := match s with | [] => true | p :: r => if p.2.cells.all V.flat = true then flatB r else false
theorem flat_kill {x : V} (t : Nat) (h : x.flat = true) : killV t x = x := by
  cases x <;> first | rfl | cases h
theorem flat_killL {l : List V} (t : Nat) (h : l.all V.flat = true) : l.map (killV t) = l := by
  refine (List.map_congr_left fun x hx => ?_).trans (List.map_id _)
  exact flat_kill t (List.all_eq_true.1 h x hx)
theorem flat_solid {l : List V} (h : l.all V.flat = true) : l.map V.solid = l := by
  refine (List.map_congr_left fun x hx => ?_).trans (List.map_id _)
  unfold V.solid
  rw [if_pos (List.all_eq_true.1 h x hx)]
  rfl
theorem flatB_look {s : BL} (h : flatB s = true) {t : Nat} {b : Blk} (hb : lookB s t = some b) : b.cells.all V.flat = true := by
  induction s with
  | nil => cases hb
  | cons p r ih =>
    simp only [flatB] at h
    split at h
    · rename_i hp
      simp only [lookB] at hb
      split at hb
      · cases hb; exact hp
      · exact ih h hb
    · cases h
theorem flatB_kill {s : BL} (h : flatB s = true) (t : Nat) : killσ t (lookB s) = lookB s := by
  funext u
  unfold killσ
  cases hb : lookB s u with
  | none => rfl
  | some b => simp only [Option.map]; rw [flat_killL t (flatB_look h hb)]
theorem all_take {l : List V} (n : Nat) (h : l.all V.flat = true) : (l.take n).all V.flat = true := List.all_eq_true.2 fun x hx => List.all_eq_true.1 h x (List.mem_of_mem_take hx)
theorem all_app {l r : List V} (h : l.all V.flat = true) (h2 : r.all V.flat = true) : (l ++ r).all V.flat = true := by rw [List.all_append, h, h2]; rfl
/-- the operations that are no calls -/
def xstore (s : BL) (n : Nat) (x v : V) : Option BL :=
  match x, v.cellsB with
  | .ptr t off, some cs => match lookB s t with
    | some b => if b.live = true ∧ cs.length = n ∧ off + n ≤ b.cells.length then fL (putCells b.cells off cs) fun cs => some (putB s t ⟨cs, true⟩) else none
    | none => none
  | _, _ => none
def xapp (c0 : Nat) (s : BL) (c sz bytes : Nat) (x y : V) : Option XEff :=
  match x with
  | .sl .nil sz0 [] => match vcells sz (lookB s) y with
    | some [] => some ⟨.sl .nil sz0 [], s, c, none⟩
    | some ys => let k := ys.length / sz; if ys.length = k * sz ∧ 0 < k ∧ k * bytes ≤ 281474976710656 ∧ k ≤ 4611686018427387904 then fL ys fun ys => some ⟨.buf c 0 k none sz, putB s c ⟨ys, true⟩, c + 1, none⟩ else none
    | none => none
  | .buf t 0 n cp sz' => match lookB s t, vcells sz (lookB s) y with
    | some b, some ys => let k := ys.length / sz; if sz' = sz ∧ b.live = true ∧ ys.length = k * sz then
        (match cp with
        | some cap => if n + k ≤ cap ∧ (n + k) * sz ≤ b.cells.length then fL (putCells b.cells (n * sz) ys) fun cs => some ⟨.buf t 0 (n + k) (some cap) sz, putB s t ⟨cs, true⟩, c, none⟩
          else if c0 ≤ t ∧ n * sz ≤ b.cells.length ∧ (2 * (n + k)) * bytes ≤ 281474976710656 ∧ n + k ≤ 4611686018427387904 ∧ flatB s = true ∧ ys.all V.flat = true then fL (b.cells.take (n * sz) ++ ys) fun cs => some ⟨.buf t 0 (n + k) none sz, putB s t ⟨cs, true⟩, c, some (.inl t)⟩ else none
        | none => if c0 ≤ t ∧ n * sz ≤ b.cells.length ∧ (2 * (n + k)) * bytes ≤ 281474976710656 ∧ n + k ≤ 4611686018427387904 ∧ flatB s = true ∧ ys.all V.flat = true then fL (b.cells.take (n * sz) ++ ys) fun cs => some ⟨.buf t 0 (n + k) none sz, putB s t ⟨cs, true⟩, c, some (.inl t)⟩ else none)
      else none
    | _, _ => none
  | _ => none
def xcpy (s : BL) (c sz : Nat) (x y : V) : Option XEff :=
  match x with
  | .buf t off n cap sz' => match lookB s t, vcells sz (lookB s) y with
    | some b, some ys => let m := ys.length / sz; if sz' = sz ∧ b.live = true ∧ ys.length = m * sz ∧ off + n * sz ≤ b.cells.length then
        fL (putCells b.cells off (ys.take (min m n * sz))) fun cs => some ⟨.int .i64 ((min m n : Nat) : Int), putB s t ⟨cs, true⟩, c, none⟩ else none
    | _, _ => none
  | _ => none
def xmk (s : BL) (c : Nat) (z : List Value) (bytes : Nat) (l q : V) : Option XEff :=
  match l, q with
  | .lit (.int _ (.ofNat n)), .lit (.int _ (.ofNat cap)) => if n ≤ cap ∧ cap * bytes ≤ 281474976710656 ∧ cap ≤ 9223372036854775807 then fL (rept z cap) fun cs => some ⟨.buf c 0 n (some cap) z.length, putB s c ⟨cs, true⟩, c + 1, none⟩ else none
  | _, _ => none

def xeff (c0 : Nat) (e : X → V) (s : BL) (c : Nat) (o : VOp) : Option XEff :=
  match o with
  | .load ag x => (vload (lookB s) ag (e x)).map fun v => ⟨v, s, c, none⟩
  | .store n x y => (xstore s n (e x) (e y)).map fun s => ⟨.any, s, c, none⟩
  | .mk z bytes l q => xmk s c z bytes (e l) (e q)
  | .box x => match (e x).cells with | some cs => fL cs fun cs => some ⟨.ptr c 0, putB s c ⟨cs, true⟩, c + 1, none⟩ | none => none
  | .alloc z => fL (vlits z) fun cs => some ⟨.ptr c 0, putB s c ⟨cs, true⟩, c + 1, none⟩
  | .bsl tok sz len z ps => match vfill (rept z len) (partsOf e ps) with
    | some cs => if tok = true then some ⟨.sl (.id c) sz cs, s, c + 1, none⟩ else some ⟨.sl .unk sz cs, s, c, none⟩
    | none => none
  | .app sz bytes z x y => xapp c0 s c sz bytes (e x) (e y)
  | .cpy sz x y => xcpy s c sz (e x) (e y)
  | .call _ _ => none
  | .callv _ _ => none
  | .bad => none
  | o => (vpure e o).map fun v => ⟨v, s, c, none⟩

theorem xeff_sound {P : Program} {dr : Bool} {c0 : Nat} {e : X → V} {s : BL} {c : Nat} {o : VOp} {r : XEff} (h : xeff c0 e s c o = some r) : VEff P dr c0 e (lookB s) c o r.v (lookB r.s) r.c r.k := by
  unfold xeff at h
  split at h
  · obtain ⟨v, h1, rfl⟩ := Option.map_eq_some_iff.1 h
    exact .load h1
  · obtain ⟨s', h1, rfl⟩ := Option.map_eq_some_iff.1 h
    refine .store ?_
    unfold xstore at h1
    unfold vstore
    split at h1
    · split at h1
      · split at h1
        · rename_i hb hc
          rw [fL_eq] at h1
          cases h1
          simp only [*, lookB_put]
          rw [if_pos (by first | exact hc | simp [hc])]
        · cases h1
      · cases h1
    · cases h1
  · unfold xmk at h
    split at h
    · rename_i hl hq
      split at h
      · rename_i hc
        rw [fL_eq] at h
        cases h
        rw [lookB_put]
        exact .mk hl hq hc.1 hc.2.1 hc.2.2
      · cases h
    · cases h
  · split at h
    · rename_i hc
      rw [fL_eq] at h
      cases h
      rw [lookB_put]
      exact .box hc
    · cases h
  · rw [fL_eq] at h
    cases h
    rw [lookB_put]
    exact .alloc
  · split at h
    · rename_i hc
      split at h
      · rename_i ht; subst ht; cases h; exact .bsl hc
      · rename_i ht
        simp at ht
        subst ht; cases h; exact .bsl0 hc
    · cases h
  · rename_i sz bytes z x y
    unfold xapp at h
    split at h
    · rename_i hx
      split at h
      · rename_i hy
        cases h
        exact .appNil0 hx hy
      · rename_i ys _ hy
        dsimp only at h
        split at h
        · rename_i hc
          rw [fL_eq] at h
          cases h
          rw [lookB_put]
          exact .appNil hx hy hc.1 hc.2.1 hc.2.2.1 hc.2.2.2
        · cases h
      · cases h
    · rename_i t n cp sz' hx
      split at h
      · rename_i b ys hb hy
        dsimp only at h
        split at h
        · rename_i hc
          obtain ⟨rfl, hl, hk⟩ := hc
          have hb' : lookB s t = some ⟨b.cells, true⟩ := by rw [hb, ← hl]
          split at h
          · rename_i cap
            split at h
            · rename_i hf
              rw [fL_eq] at h
              cases h
              rw [lookB_put]
              exact .appFit hx hb' hy hk hf.1 hf.2
            · split at h
              · rename_i hf
                rw [fL_eq] at h
                cases h
                rw [lookB_put]
                exact (by have q := VEff.appMove (P := P) (dr := dr) (c0 := c0) (e := e) (σ := lookB s) (c := c) (z := z) hx hb' hf.1 hy hk hf.2.1 hf.2.2.1 hf.2.2.2.1; rw [flatB_kill hf.2.2.2.2.1, flat_killL t (all_app (all_take _ (flatB_look hf.2.2.2.2.1 hb')) hf.2.2.2.2.2)] at q; exact q)
              · cases h
          · split at h
            · rename_i hf
              rw [fL_eq] at h
              cases h
              rw [lookB_put]
              exact (by have q := VEff.appMove (P := P) (dr := dr) (c0 := c0) (e := e) (σ := lookB s) (c := c) (z := z) hx hb' hf.1 hy hk hf.2.1 hf.2.2.1 hf.2.2.2.1; rw [flatB_kill hf.2.2.2.2.1, flat_killL t (all_app (all_take _ (flatB_look hf.2.2.2.2.1 hb')) hf.2.2.2.2.2)] at q; exact q)
            · cases h
        · cases h
      · cases h
    · cases h
  · unfold xcpy at h
    split at h
    · rename_i t off n cap sz' hx
      split at h
      · rename_i b ys hb hy
        dsimp only at h
        split at h
        · rename_i hc
          obtain ⟨rfl, hl, hk, hf⟩ := hc
          have hb' : lookB s t = some ⟨b.cells, true⟩ := by rw [hb, ← hl]
          rw [fL_eq] at h
          cases h
          rw [lookB_put]
          exact .cpy hx hb' hy hk hf
        · cases h
      · cases h
    · cases h
  · cases h
  · cases h
  · cases h
  · obtain ⟨v, h1, rfl⟩ := Option.map_eq_some_iff.1 h
    exact .pure h1

/-- a slot that holds a buffer of the call's own: written no more -/
def frz1 {β : Type} (c0 : Nat) (i : Nat) (S : XS) (k : XS → Option β) : Option β :=
  match nth S.r i with
  | .buf t off n cap sz => if c0 ≤ t then (match lookB S.s t with
      | some b => if off + n * sz ≤ b.cells.length ∧ ((b.cells.drop off).take (n * sz)).all V.flat = true then fL ((b.cells.drop off).take (n * sz)) fun l => setR S.r i (.sl (Tok.from off t) sz l) fun r => k ⟨r, putB S.s t ⟨b.cells, false⟩, S.c⟩ else none
      | none => none) else k S
  | _ => k S
theorem frz1_some {β : Type} {c0 i : Nat} {S : XS} {k : XS → Option β} {b : β} (h : frz1 c0 i S k = some b) : ∃ S1, k S1 = some b ∧ (S1 = S ∨ ∃ t off n sz cap cells lv, S.vs.ρ i = .buf t off n cap sz ∧ S.vs.σ t = some ⟨cells, lv⟩ ∧ c0 ≤ t ∧ off + n * sz ≤ cells.length ∧ S1.vs = frozen S.vs i t off sz cells (((cells.drop off).take (n * sz)).map V.solid)) := by
  unfold frz1 at h
  split at h
  · rename_i t off n cap sz hi
    split at h
    · rename_i h0
      split at h
      · rename_i bk hb
        split at h
        · rename_i hl
          rw [fL_eq] at h
          obtain ⟨r, h1, h2⟩ := setR_some h
          refine ⟨_, h1, .inr ⟨t, off, n, sz, cap, bk.cells, bk.live, hi, hb, h0, hl.1, ?_⟩⟩
          rw [flat_solid hl.2]
          simp only [XS.vs, frozen, h2, lookB_put]
        · cases h
      · cases h
    · exact ⟨S, h, .inl rfl⟩
  · exact ⟨S, h, .inl rfl⟩
def frzL {β : Type} (c0 : Nat) (l : List Nat) (S : XS) (k : XS → Option β) : Option β := match l with | [] => k S | i :: r => frz1 c0 i S fun S => frzL c0 r S k

theorem frzL_steps {β : Type} {P : Program} {c0 : Nat} {l : List Nat} {S : XS} {k : XS → Option β} {b : β} (h : frzL c0 l S k = some b) : ∃ S1 : XS, k S1 = some b ∧ ∀ ops S', VSteps P false c0 ops S1.vs S' → VSteps P false c0 ops S.vs S' := by
  induction l generalizing S with
  | nil => exact ⟨S, h, fun _ _ h => h⟩
  | cons i r ih =>
    obtain ⟨S1, h1, h2⟩ := frz1_some h
    obtain ⟨S2, h3, h4⟩ := ih h1
    refine ⟨S2, h3, fun ops S' hs => ?_⟩
    have h5 := h4 ops S' hs
    rcases h2 with rfl | ⟨t, off, n, sz, cap, cells, lv, g1, g2, g3, g4, g5⟩
    · exact h5
    · exact .frz rfl g1 g2 g3 g4 (by rw [← g5]; exact h5)
theorem frzL_exec {β : Type} {P : Program} {c0 : Nat} {l : List Nat} {S : XS} {k : XS → Option β} {b : β} (h : frzL c0 l S k = some b) : ∃ S1 : XS, k S1 = some b ∧ ∀ vc e S', VExec P c0 vc S1.vs e S' → VExec P c0 vc S.vs e S' := by
  induction l generalizing S with
  | nil => exact ⟨S, h, fun _ _ _ h => h⟩
  | cons i r ih =>
    obtain ⟨S1, h1, h2⟩ := frz1_some h
    obtain ⟨S2, h3, h4⟩ := ih h1
    refine ⟨S2, h3, fun vc e S' hs => ?_⟩
    have h5 := h4 vc e S' hs
    rcases h2 with rfl | ⟨t, off, n, sz, cap, cells, lv, g1, g2, g3, g4, g5⟩
    · exact h5
    · exact .freeze g1 g2 g3 g4 (by rw [← g5]; exact h5)

/-- the live blocks that a call's arguments lie in -/
def lentB (s : BL) (l : List V) : BL := match l with
  | [] => []
  | .buf t _ _ _ _ :: r => (match lookB s t with | some b => if b.live = true then putB (lentB s r) t b else lentB s r | none => lentB s r)
  | .ptr t _ :: r => (match lookB s t with | some b => if b.live = true then putB (lentB s r) t b else lentB s r | none => lentB s r)
  | _ :: r => lentB s r
theorem lentB_ok (s : BL) (l : List V) (t : Nat) (b : Blk) (h : lookB (lentB s l) t = some b) : lookB s t = some b ∧ b.live = true := by
  have key : ∀ (t : Nat) (b : Blk) (r : List V) (t' : Nat), (∀ t b, lookB (lentB s r) t = some b → lookB s t = some b ∧ b.live = true) →
      lookB (match lookB s t' with | some b => if b.live = true then putB (lentB s r) t' b else lentB s r | none => lentB s r) t = some b → lookB s t = some b ∧ b.live = true := by
    intro t b r t' ih h
    split at h
    · rename_i b' hb
      split at h
      · rename_i hl
        rw [lookB_put] at h
        simp only [supd] at h
        split at h
        · rename_i e; subst e; cases h; exact ⟨hb, hl⟩
        · exact ih _ _ h
      · exact ih _ _ h
    · exact ih _ _ h
  revert t b
  induction l with
  | nil => intro t b h; cases h
  | cons x r ih =>
    intro t b h
    cases x with
    | buf t' off n cap sz => exact key t b r t' (fun t b h => ih t b h) h
    | ptr t' off => exact key t b r t' (fun t b h => ih t b h) h
    | any => exact ih t b h
    | lit _ => exact ih t b h
    | sl _ _ _ => exact ih t b h
    | eptr _ _ => exact ih t b h
    | gptr _ _ => exact ih t b h
    | agg _ => exact ih t b h
    | tup _ => exact ih t b h

structure XRes where
  v : V
  s : BL
  c : Nat
abbrev XCall := FuncId → List V → BL → Nat → Option XRes
def CallOk (P : Program) (call : XCall) : Prop := ∀ f xs sl c r, call f xs sl c = some r → VCalls P f c (lookB sl) xs r.v (lookB r.s) r.c ∧ ∀ t, lookB sl t = none → lookB r.s t = none

def xput {β : Type} (d : Option Nat) (v : V) (r : List V) (k : List V → Option β) : Option β := match d with | none => k r | some i => fV v fun v => setR r i v k
theorem xput_some {β : Type} {d : Option Nat} {v : V} {r : List V} {k : List V → Option β} {b : β} (h : xput d v r k = some b) : ∃ r', k r' = some b ∧ nth r' = updo (nth r) d v := by
  cases d with
  | none => exact ⟨r, h, rfl⟩
  | some i =>
    simp only [xput, fV_eq] at h
    exact setR_some h

def killR (t : Nat) (l : List V) : List V := match l with | [] => [] | x :: xs => killV t x :: killR t xs
theorem nth_kill (t : Nat) (l : List V) : nth (killR t l) = kill (some (.inl t)) (nth l) := by
  funext i
  induction l generalizing i with
  | nil => rfl
  | cons x xs ih =>
    cases i with
    | zero => rfl
    | succ i => exact ih i

/-- a call in a region -/
def xcallop {β : Type} (call : XCall) (dr : Bool) (lend : FuncId → Bool) (c0 : Nat) (f : FuncId) (xs : List X) (d : Option Nat) (S : XS) (k : XS → Option β) : Option β :=
  (if dr = true ∨ lend f = true then fun k => k S else frzL c0 (xs.flatMap X.reads) S) fun S =>
    let ys := xs.map (X.ev (nth S.r))
    let sl := if dr = true then [] else lentB S.s ys
    match sl with
    | [] => (match call f ys [] S.c with
      | some ⟨v, _, c'⟩ => fN c' fun c' => xput d v S.r fun r => k ⟨r, S.s, c'⟩
      | none => none)
    | sl => (match call f ys sl S.c with
      | some ⟨v, s', c'⟩ => fN c' fun c' => fL (keepB (fun t => !((lookB sl t).isSome || decide (S.c ≤ t))) S.s ++ s') fun s => xput d v S.r fun r => k ⟨r, s, c'⟩
      | none => none)

def asFn (v : V) : Option FuncId := match v with | .lit (.func (.func f) a b) => if a.size = 0 ∧ b.size = 0 then some f else none | _ => none
theorem asFn_some {v : V} {f : FuncId} (h : asFn v = some f) : v = .lit (.func (.func f) #[] #[]) := by
  unfold asFn at h
  split at h
  · split at h
    · rename_i f' a b g
      cases h
      rw [Array.eq_empty_of_size_eq_zero g.1, Array.eq_empty_of_size_eq_zero g.2]
    · cases h
  · cases h
def xstep {β : Type} (call : XCall) (dr : Bool) (lend : FuncId → Bool) (c0 : Nat) (op : VOp) (d : Option Nat) (S : XS) (k : XS → Option β) : Option β :=
  match op with
  | .call f xs => xcallop call dr lend c0 f xs d S k
  | .callv x xs => (if dr = true then fun k => k S else frzL c0 (xs.flatMap X.reads) S) fun S =>
      (match asFn (x.ev (nth S.r)) with
      | some f => (match call f (xs.map (X.ev (nth S.r))) [] S.c with
        | some ⟨v, _, c'⟩ => fN c' fun c' => xput d v S.r fun r => k ⟨r, S.s, c'⟩
        | none => none)
      | none => none)
  | op => (if dr = true then fun k => k S else (match op with | .build .. | .bsl .. | .store .. | .box .. => frzL c0 op.reads S | _ => fun k => k S)) fun S =>
    (match xeff c0 (X.ev (nth S.r)) S.s S.c op with
    | some ⟨v, s, c, none⟩ => xput d v S.r fun r => k ⟨r, s, c⟩
    | some ⟨v, s, c, some (.inl t)⟩ => fL (killR t S.r) fun r => xput d v r fun r => k ⟨r, s, c⟩
    | _ => none)

def xops (call : XCall) (dr : Bool) (lend : FuncId → Bool) (c0 : Nat) (l : List VO) (S : XS) : Option XS :=
  match l with
  | [] => some S
  | ⟨d, op, none⟩ :: r => xstep call dr lend c0 op d S fun S => xops call dr lend c0 r S
  | ⟨d, op, some (t, b)⟩ :: r => match nth S.r t with
    | .lit (.bool b') => if b' = b then xstep call dr lend c0 op d S fun S => xops call dr lend c0 r S else xput d (.tup []) S.r fun rr => xops call dr lend c0 r ⟨rr, S.s, S.c⟩
    | .tup [] => xput d (.tup []) S.r fun rr => xops call dr lend c0 r ⟨rr, S.s, S.c⟩
    | _ => none

structure XOut where
  e : VEx
  S : XS
def frzOf (l : List VO) : List Nat := l.flatMap fun o => match o.op with | .call .. | .callv .. | .build .. | .bsl .. | .store .. | .box .. => o.op.reads | _ => []
def xrun (call : XCall) (lend : FuncId → Bool) (rsl : List Nat) (c0 : Nat) (n : Nat) (vc : VC) (S : XS) : Option XOut :=
  match n with
  | 0 => none
  | n + 1 => match vc with
    | .skip => some ⟨.normal, S⟩
    | .region dr ops => (if dr = true then frzL c0 (frzOf ops) S else fun k => k S) fun S =>
      (match xops call dr lend c0 ops S with | some S => some ⟨.normal, S⟩ | none => none)
    | .seq a b => match xrun call lend rsl c0 n a S with
      | some ⟨.normal, S⟩ => xrun call lend rsl c0 n b S
      | r => r
    | .cond x a b => match x.ev (nth S.r) with
      | .lit (.bool true) => xrun call lend rsl c0 n a S
      | .lit (.bool false) => xrun call lend rsl c0 n b S
      | _ => none
    | .block id b => match xrun call lend rsl c0 n b S with
      | some ⟨.exit j, S⟩ => if j = id then some ⟨.normal, S⟩ else some ⟨.exit j, S⟩
      | r => r
    | .loop b => match xrun call lend rsl c0 n b S with
      | some ⟨.normal, S⟩ => xrun call lend rsl c0 n (.loop b) S
      | r => r
    | .exit id => some ⟨.exit id, S⟩
    | .ret => frzL c0 rsl S fun S => some ⟨.ret, S⟩
    | .bad => none

structure XFun where
  f : FuncId
  vc : VC
  rs : List VRes
  n : Nat
def findF (l : List XFun) (f : FuncId) : Option XFun := match l with | [] => none | e :: r => if Nat.beq e.f f = true then some e else findF r f
def resSlots : List VRes → List Nat | [] => [] | .tmp t :: r => t :: resSlots r | _ :: r => resSlots r

/-- what is known of a call without running it: 'f xs' answers this, whoever calls -/
abbrev XOrc := FuncId → List V → Option V
def OrcOk (P : Program) (orc : XOrc) : Prop := ∀ f xs v, orc f xs = some v → ∀ c, VCallP P f c xs v c
def askO (orc : XOrc) (f : FuncId) (xs : List V) (sl : BL) : Option V := match sl with | [] => orc f xs | _ => none

def xcall (orc : XOrc) (T : List XFun) (lend : FuncId → Bool) (rounds : Nat) : Nat → XCall
  | 0 => fun _ _ _ _ => none
  | n + 1 => fun f xs sl c => match findF T f with
    | none => none
    | some ⟨_, vc, rs, m⟩ => match askO orc f xs sl with
    | some v => some ⟨v, [], c⟩
    | none => if xs.length ≤ m then
      (match fL (xs ++ List.replicate (m - xs.length) .any) fun r => xrun (xcall orc T lend rounds n) lend (resSlots rs) c rounds vc ⟨r, sl, c⟩ with
      | some ⟨.exit _, _⟩ => none
      | some ⟨e, S⟩ => (match vresult S.vs rs with | some v => some ⟨v, keepB (fun t => (lookB sl t).isSome) S.s, S.c⟩ | none => none)
      | none => none) else none

/-! ### it is right -/
def GoodF (P : Program) (e : XFun) : Prop := ∃ fn code, P.funcs[e.f]? = some fn ∧ fn.body = some code ∧ resCode P fn.ntmps code = e.vc ∧ resResults P fn.results.toList = some e.rs ∧ fn.ntmps = e.n ∧ (fn.name == "runtime.NumGoroutine") = false


def Fz (P : Program) (dr : Bool) (c0 : Nat) (S S0 : XS) : Prop := (∀ ops S', VSteps P dr c0 ops S0.vs S' → VSteps P dr c0 ops S.vs S') ∧ ∀ t v, nth S.r t = .lit v → nth S0.r t = .lit v
theorem Fz.refl {P : Program} {dr : Bool} {c0 : Nat} {S : XS} : Fz P dr c0 S S := ⟨fun _ _ h => h, fun _ _ h => h⟩
theorem frzL_fz {β : Type} {P : Program} {c0 : Nat} {l : List Nat} {S : XS} {k : XS → Option β} {b : β} (h : frzL c0 l S k = some b) : ∃ S1 : XS, k S1 = some b ∧ Fz P false c0 S S1 := by
  induction l generalizing S with
  | nil => exact ⟨S, h, Fz.refl⟩
  | cons i r ih =>
    obtain ⟨S1, h1, h2⟩ := frz1_some h
    obtain ⟨S2, h3, h4, h6⟩ := ih h1
    rcases h2 with rfl | ⟨t, off, n, sz, cap, cells, lv, g1, g2, g3, g4, g5⟩
    · exact ⟨S2, h3, h4, h6⟩
    · refine ⟨S2, h3, fun ops S' hs => .frz rfl g1 g2 g3 g4 (by rw [← g5]; exact h4 ops S' hs), fun u v hv => h6 u v ?_⟩
      have e : nth S1.r u = upd (nth S.r) i (.sl (Tok.from off t) sz (((cells.drop off).take (n * sz)).map V.solid)) u := congrFun (congrArg VS.ρ g5) u
      rw [e]
      simp only [upd]
      split
      · rename_i e; subst e
        have g1' : nth S.r u = _ := g1
        rw [hv] at g1'; cases g1'
      · exact hv
theorem fz_if {β : Type} {P : Program} {dr : Bool} {c0 : Nat} {p : Prop} [Decidable p] (hp : dr = true → p) {l : List Nat} {S : XS} {k : XS → Option β} {b : β} (h : (if p then fun k => k S else frzL c0 l S) k = some b) : ∃ S1 : XS, k S1 = some b ∧ Fz P dr c0 S S1 := by
  split at h
  · exact ⟨S, h, Fz.refl⟩
  · rename_i g
    cases dr with
    | true => exact absurd (hp rfl) g
    | false => exact frzL_fz h

theorem joinB (c : Nat) (s sl s' : BL) (h : ∀ t, lookB sl t = none → lookB s' t = none) : lookB (keepB (fun t => !((lookB sl t).isSome || decide (c ≤ t))) s ++ s') = joinσ c (lookB s) (lookB sl) (lookB s') := by
  funext t
  rw [lookB_append, lookB_keep]
  unfold joinσ
  by_cases e1 : (lookB sl t).isSome = true
  · simp [e1]
  · have e1' : lookB sl t = none := by simpa using e1
    by_cases e2 : c ≤ t
    · simp [e1, e2]
    · simp only [e1', Option.isSome_none, Bool.false_or, e2, decide_false, Bool.not_false, if_true, Bool.false_eq_true, or_self, if_false]
      rw [h t e1']
      cases lookB s t <;> rfl

theorem xcallop_sound {β : Type} {P : Program} {call : XCall} (hc : CallOk P call) {dr : Bool} {lend : FuncId → Bool} {c0 : Nat} {f : FuncId} {xs : List X} {d : Option Nat} {S : XS} {k : XS → Option β} {b : β} (h : xcallop call dr lend c0 f xs d S k = some b) :
    ∃ (S0 S1 : XS) (v : V) (σ' : Nat → Option Blk) (c' : Nat) (kt : KT), Fz P dr c0 S S0 ∧ VEff P dr c0 (X.ev S0.vs.ρ) S0.vs.σ S0.vs.c (.call f xs) v σ' c' kt ∧ S1.vs = ⟨updo (kill kt S0.vs.ρ) d v, σ', c'⟩ ∧ k S1 = some b := by
  unfold xcallop at h
  obtain ⟨S0, h, hz⟩ := fz_if (P := P) (dr := dr) (fun e => .inl e) h
  dsimp only at h
  split at h
  · split at h
    · rename_i v s' c' hcl
      rw [fN_eq] at h
      obtain ⟨r', h1, h2⟩ := xput_some h
      obtain ⟨g1, g2⟩ := hc _ _ _ _ _ hcl
      have e : lookB s' = noBlk := funext fun t => g2 t rfl
      rw [lookB_nil] at g1
      dsimp only at g1
      rw [e] at g1
      exact ⟨S0, _, v, _, c', none, hz, .callp g1, by simp only [XS.vs, h2]; rfl, h1⟩
    · cases h
  · rename_i sl hsl
    split at h
    · rename_i v s' c' hcl
      rw [fN_eq, fL_eq] at h
      obtain ⟨r', h1, h2⟩ := xput_some h
      obtain ⟨g1, g2⟩ := hc _ _ _ _ _ hcl
      have hdr : dr = false := by
        cases dr with
        | false => rfl
        | true => exact absurd (by simp) hsl
      subst hdr
      simp only [Bool.false_eq_true, if_false] at *
      refine ⟨S0, _, v, _, c', none, hz, .call rfl (fun t k hk => lentB_ok _ _ t k hk) g1, ?_, h1⟩
      simp only [XS.vs, h2]
      rw [joinB _ _ _ _ g2]
      rfl
    · cases h

theorem xeffop {β : Type} {P : Program} {dr : Bool} {c0 : Nat} {op : VOp} {d : Option Nat} {S : XS} {k : XS → Option β} {b : β}
    (h : (match xeff c0 (X.ev (nth S.r)) S.s S.c op with
    | some ⟨v, s, c, none⟩ => xput d v S.r fun r => k ⟨r, s, c⟩
    | some ⟨v, s, c, some (.inl t)⟩ => fL (killR t S.r) fun r => xput d v r fun r => k ⟨r, s, c⟩
    | _ => none) = some b) :
    ∃ (S1 : XS) (v : V) (σ' : Nat → Option Blk) (c' : Nat) (kt : KT), VEff P dr c0 (X.ev S.vs.ρ) S.vs.σ S.vs.c op v σ' c' kt ∧ S1.vs = ⟨updo (kill kt S.vs.ρ) d v, σ', c'⟩ ∧ k S1 = some b := by
  split at h
  · rename_i v s c hx
    obtain ⟨r', h1, h2⟩ := xput_some h
    exact ⟨_, v, _, c, none, xeff_sound hx, by simp only [XS.vs, h2]; rfl, h1⟩
  · rename_i v s c t hx
    rw [fL_eq] at h
    obtain ⟨r', h1, h2⟩ := xput_some h
    exact ⟨_, v, _, c, some (.inl t), xeff_sound hx, by simp only [XS.vs, h2, nth_kill], h1⟩
  · cases h

theorem xstep_sound {β : Type} {P : Program} {call : XCall} (hc : CallOk P call) {dr : Bool} {lend : FuncId → Bool} {c0 : Nat} {op : VOp} {d : Option Nat} {S : XS} {k : XS → Option β} {b : β}
    (hfn : ∀ x xs, op = .callv x xs → ∀ f r, call f (xs.map (X.ev (nth S.r))) [] S.c = some r → True)
    (hnm : ∀ f xs sl c r, call f xs sl c = some r → ∃ fn b, P.funcs[f]? = some fn ∧ (fn.name == "runtime.NumGoroutine") = false ∧ fn.body = some b) (h : xstep call dr lend c0 op d S k = some b) :
    ∃ (S0 S1 : XS) (v : V) (σ' : Nat → Option Blk) (c' : Nat) (kt : KT), Fz P dr c0 S S0 ∧ VEff P dr c0 (X.ev S0.vs.ρ) S0.vs.σ S0.vs.c op v σ' c' kt ∧ S1.vs = ⟨updo (kill kt S0.vs.ρ) d v, σ', c'⟩ ∧ k S1 = some b := by
  unfold xstep at h
  split at h
  · exact xcallop_sound hc h
  · rename_i x xs
    obtain ⟨S0, h, hz⟩ := fz_if (P := P) (dr := dr) (fun e => e) h
    split at h
    · rename_i f hx
      split at h
      · rename_i v s' c' hcl
        rw [fN_eq] at h
        obtain ⟨r', h1, h2⟩ := xput_some h
        obtain ⟨g1, g2⟩ := hc _ _ _ _ _ hcl
        have e : lookB s' = noBlk := funext fun t => g2 t rfl
        rw [lookB_nil] at g1
        dsimp only at g1
        rw [e] at g1
        exact ⟨S0, _, v, _, c', none, hz, .callv (asFn_some hx) (hnm _ _ _ _ _ hcl) g1, by simp only [XS.vs, h2]; rfl, h1⟩
      · cases h
    · cases h
  · obtain ⟨S0, h, hz⟩ : ∃ S1 : XS, (match xeff c0 (X.ev (nth S1.r)) S1.s S1.c op with
        | some ⟨v, s, c, none⟩ => xput d v S1.r fun r => k ⟨r, s, c⟩
        | some ⟨v, s, c, some (.inl t)⟩ => fL (killR t S1.r) fun r => xput d v r fun r => k ⟨r, s, c⟩
        | _ => none) = some b ∧ Fz P dr c0 S S1 := by
      cases dr with
      | true => exact ⟨S, by simpa using h, Fz.refl⟩
      | false =>
        simp only [Bool.false_eq_true, if_false] at h
        split at h
        all_goals first | exact frzL_fz h | exact ⟨S, h, Fz.refl⟩
    obtain ⟨S1, v, σ', c', kt, g1, g2, g3⟩ := xeffop (P := P) (dr := dr) h
    exact ⟨S0, S1, v, σ', c', kt, hz, g1, g2, g3⟩

theorem xops_sound {P : Program} {call : XCall} (hc : CallOk P call) (hnm : ∀ f xs sl c r, call f xs sl c = some r → ∃ fn b, P.funcs[f]? = some fn ∧ (fn.name == "runtime.NumGoroutine") = false ∧ fn.body = some b) {dr : Bool} {lend : FuncId → Bool} {c0 : Nat} {l : List VO} {S S' : XS} (h : xops call dr lend c0 l S = some S') :
    VSteps P dr c0 l S.vs S'.vs := by
  induction l generalizing S with
  | nil => cases h; exact .nil _
  | cons o r ih =>
    obtain ⟨d, op, g⟩ := o
    have run : ∀ g : Option (Nat × Bool), (∀ t b, g = some (t, b) → nth S.r t = .lit (.bool b)) → xstep call dr lend c0 op d S (fun S => xops call dr lend c0 r S) = some S' → VSteps P dr c0 (⟨d, op, g⟩ :: r) S.vs S'.vs := by
      intro g hg h
      obtain ⟨S0, S1, v, σ', c', kt, hz, h1, h2, h3⟩ := xstep_sound hc (fun _ _ _ _ _ _ => trivial) hnm h
      refine hz.1 _ _ (.cons (.run (fun t b e => hz.2 _ _ (hg t b e)) h1) ?_)
      rw [← h2]
      exact ih h3
    cases g with
    | none => exact run none (fun t b e => by cases e) h
    | some tb =>
      obtain ⟨t, b⟩ := tb
      have skip : skips (nth S.r t) b → (xput d (.tup []) S.r fun rr => xops call dr lend c0 r ⟨rr, S.s, S.c⟩) = some S' → VSteps P dr c0 (⟨d, op, some (t, b)⟩ :: r) S.vs S'.vs := by
        intro hs h
        obtain ⟨r', h1, h2⟩ := xput_some h
        refine .cons (.skip rfl hs) ?_
        have := ih h1
        simp only [XS.vs, h2] at this
        exact this
      simp only [xops] at h
      split at h
      · rename_i b' hb
        split at h
        · rename_i e
          subst e
          exact run _ (fun t' b'' e => by cases e; exact hb) h
        · rename_i e
          exact skip (.inl ⟨b', hb, e⟩) h
      · rename_i hb
        exact skip (.inr hb) h
      · cases h

theorem xrun_sound {P : Program} {call : XCall} (hc : CallOk P call) (hnm : ∀ f xs sl c r, call f xs sl c = some r → ∃ fn b, P.funcs[f]? = some fn ∧ (fn.name == "runtime.NumGoroutine") = false ∧ fn.body = some b) {lend : FuncId → Bool} {rsl : List Nat} {c0 : Nat} {n : Nat} {vc : VC} {S : XS} {o : XOut} (h : xrun call lend rsl c0 n vc S = some o) :
    VExec P c0 vc S.vs o.e o.S.vs := by
  induction n generalizing vc S o with
  | zero => cases h
  | succ n ih =>
    unfold xrun at h
    split at h
    · cases h; exact .skip _
    · rename_i dr ops
      have fin : ∀ S0 : XS, (match xops call dr lend c0 ops S0 with | some S => some (⟨.normal, S⟩ : XOut) | none => none) = some o → VExec P c0 (.region dr ops) S0.vs o.e o.S.vs := by
        intro S0 h
        split at h
        · rename_i S1 hS
          cases h
          exact .region (xops_sound hc hnm hS)
        · cases h
      split at h
      · obtain ⟨S0, h1, h2⟩ := frzL_exec (P := P) h
        exact h2 _ _ _ (fin S0 h1)
      · exact fin S h
    · rename_i a b
      split at h
      · rename_i S1 h1
        exact .seq (ih h1) (ih h)
      · rename_i hne
        refine .seqOut (ih h) ?_
        intro e
        obtain ⟨e0, S1⟩ := o
        simp only at e
        subst e
        exact hne S1 h
    · split at h
      · rename_i hx
        exact .cond (t := true) hx (ih h)
      · rename_i hx
        exact .cond (t := false) hx (ih h)
      · cases h
    · split at h
      · rename_i j S1 h1
        split at h
        · rename_i e; subst e; cases h; exact .blockExit (ih h1)
        · rename_i e; cases h; exact .block (ih h1) (fun e' => by cases e'; exact e rfl)
      · rename_i hne
        refine .block (ih h) ?_
        intro e
        obtain ⟨e0, S1⟩ := o
        simp only at e
        subst e
        exact hne _ S1 h
    · split at h
      · rename_i S1 h1
        exact .loop (ih h1) (ih h)
      · rename_i hne
        refine .loopOut (ih h) ?_
        intro e
        obtain ⟨e0, S1⟩ := o
        simp only at e
        subst e
        exact hne S1 h
    · cases h; exact .exit _ _
    · obtain ⟨S0, h1, h2⟩ := frzL_exec (P := P) h
      cases h1
      exact h2 _ _ _ (.ret _)
    · cases h

theorem findF_some {T : List XFun} {f : FuncId} {e : XFun} (h : findF T f = some e) : e ∈ T ∧ e.f = f := by
  induction T with
  | nil => cases h
  | cons a r ih =>
    simp only [findF] at h
    split at h
    · rename_i g
      cases h
      exact ⟨List.mem_cons_self, Nat.eq_of_beq_eq_true g⟩
    · obtain ⟨h1, h2⟩ := ih h
      exact ⟨List.mem_cons_of_mem _ h1, h2⟩

theorem xcall_sound {P : Program} (hm : P.follows .mixedOrders = true) {orc : XOrc} (ho : OrcOk P orc) {T : List XFun} (hT : ∀ e ∈ T, GoodF P e) {lend : FuncId → Bool} {rounds : Nat} (n : Nat) : CallOk P (xcall orc T lend rounds n) ∧ ∀ f xs sl c r, xcall orc T lend rounds n f xs sl c = some r → ∃ fn b, P.funcs[f]? = some fn ∧ (fn.name == "runtime.NumGoroutine") = false ∧ fn.body = some b := by
  induction n with
  | zero => exact ⟨fun f xs sl c r h => (by cases h), fun f xs sl c r h => (by cases h)⟩
  | succ n ih =>
    constructor
    · intro f xs sl c r h
      simp only [xcall] at h
      split at h
      · cases h
      · rename_i f' vc rs m hf
        obtain ⟨h1, h2⟩ := findF_some hf
        obtain ⟨fn, code, g1, g2, g3, g4, g5, _⟩ := hT _ h1
        dsimp only at h2 g1 g3 g4 g5
        subst h2 g5
        split at h
        · rename_i v hv
          cases h
          cases sl with
          | nil =>
            refine ⟨?_, fun t _ => rfl⟩
            rw [lookB_nil]
            exact ho _ _ _ hv c
          | cons _ _ => cases hv
        split at h
        · rename_i hlen
          split at h
          · cases h
          · rename_i e S hne hr
            rw [fL_eq] at hr
            have hex := xrun_sound ih.1 ih.2 hr
            dsimp only at hex
            have hst : (⟨xs ++ List.replicate (fn.ntmps - xs.length) .any, sl, c⟩ : XS).vs = ⟨start xs, lookB sl, c⟩ := by simp only [XS.vs, nth_append_any, start_nth]
            rw [hst] at hex
            split at h
            · rename_i v hv
              cases h
              have he : e = .ret ∨ e = .normal := by
                cases e with
                | normal => exact .inr rfl
                | ret => exact .inl rfl
                | exit id => exact (hne id rfl).elim
              refine ⟨vcalls_of_exec hm g1 g2 g3 g4 hlen hex he hv (fun t k hk => ?_) (fun t ht => ?_), fun t ht => ?_⟩
              · rw [lookB_keep] at hk
                split at hk
                · exact hk
                · cases hk
              · rw [lookB_keep, if_pos]
                · rfl
                · cases hq : lookB sl t with
                  | none => exact absurd hq ht
                  | some k => rfl
              · dsimp only
                rw [lookB_keep, ht]
                rfl
            · cases h
          · cases h
        · cases h
    · intro f xs sl c r h
      simp only [xcall] at h
      split at h
      · cases h
      · rename_i f' vc rs m hf
        obtain ⟨h1, h2⟩ := findF_some hf
        obtain ⟨fn, code, g1, g2, g3, g4, g5, g6⟩ := hT _ h1
        dsimp only at h2 g1
        subst h2
        exact ⟨fn, code, g1, g6, g2⟩
end Go.VM
namespace Go.VM
theorem xcall_p {P : Program} (hm : P.follows .mixedOrders = true) {orc : XOrc} (ho : OrcOk P orc) {T : List XFun} (hT : ∀ e ∈ T, GoodF P e) {lend : FuncId → Bool} {rounds n c : Nat} {f : FuncId} {xs : List V} {v : V}
    (h : ((xcall orc T lend rounds n f xs [] c).map fun r => r.v) = some v) : ∃ c', VCallP P f c xs v c' := by
  cases hr : xcall orc T lend rounds n f xs [] c with
  | none => rw [hr] at h; cases h
  | some r =>
    rw [hr] at h
    cases h
    obtain ⟨h1, h2⟩ := (xcall_sound hm ho hT (lend := lend) (rounds := rounds) n).1 f xs [] c r hr
    have e : lookB r.s = noBlk := funext fun t => h2 t rfl
    rw [lookB_nil, e] at h1
    exact ⟨_, h1⟩
end Go.VM
set_option linter.unusedVariables false
set_option linter.unusedSimpArgs false
namespace Go.VM

/-- the same value, its memory not told -/
inductive Loose : V → V → Prop
  | lit (v : Value) : Loose (.lit v) (.lit v)
  | sl (t : Tok) (sz : Nat) (l : List Value) : Loose (.sl t sz (l.map .lit)) (.sl .unk sz (l.map .lit))
  | tup (l l' : List V) (hn : l.length = l'.length) (h : ∀ (j : Nat) (x y : V), l[j]? = some x → l'[j]? = some y → Loose x y) : Loose (.tup l) (.tup l')

theorem Loose.nats (t : Tok) (l : List Nat) : Loose (nats t l) (nats .unk l) := by
  have := Loose.sl t 1 (l.map fun (n : Nat) => Value.int .u64 (n : Int))
  rw [List.map_map] at this
  exact this
theorem Loose.pair {x y x' y' : V} (h1 : Loose x x') (h2 : Loose y y') : Loose (.tup [x, y]) (.tup [x', y']) :=
  .tup _ _ rfl fun j a b ha hb => match j, ha, hb with
    | 0, ha, hb => by simp at ha hb; subst ha hb; exact h1
    | 1, ha, hb => by simp at ha hb; subst ha hb; exact h2
    | j + 2, ha, hb => by simp at ha
theorem Loose.triple {x y z x' y' z' : V} (h1 : Loose x x') (h2 : Loose y y') (h3 : Loose z z') : Loose (.tup [x, y, z]) (.tup [x', y', z']) :=
  .tup _ _ rfl fun j a b ha hb => match j, ha, hb with
    | 0, ha, hb => by simp at ha hb; subst ha hb; exact h1
    | 1, ha, hb => by simp at ha hb; subst ha hb; exact h2
    | 2, ha, hb => by simp at ha hb; subst ha hb; exact h3
    | j + 3, ha, hb => by simp at ha

theorem rep_lit {w : World} {M : Nat → Prop} {μ : Nat → Nat} {c : Nat} {v u : Value} (h : Rep w M μ c (.lit v) u) : u = v := by cases h; rfl
theorem Loose.rep {w : World} {M : Nat → Prop} {μ : Nat → Nat} {c d : Nat} {x y : V} {u : Value} (hl : Loose x y) (h : Rep w M μ c x u) : Rep w M μ d y u := by
  induction hl generalizing u with
  | lit v => rw [rep_lit h]; exact .lit v
  | sl t sz l =>
    generalize hx : V.sl t sz (l.map .lit) = x at h
    cases h with
    | any | lit | agg | tup => cases hx
    | nil tk sz' =>
      simp only [V.sl.injEq] at hx
      obtain ⟨rfl, rfl, e⟩ := hx
      rw [e]
      exact .nil .unk sz
    | sl tk sz' n cap a l' vs ht hn hc hs hM hcap h1 hl =>
      simp only [V.sl.injEq] at hx
      obtain ⟨rfl, rfl, rfl⟩ := hx
      refine .sl .unk sz n cap a _ vs trivial hn hc hs hM hcap h1 fun j x hx => ?_
      have := hl j x hx
      rw [List.getElem?_map] at hx
      obtain ⟨v, _, rfl⟩ := Option.map_eq_some_iff.1 hx
      rw [rep_lit this]
      exact .lit v
  | tup l l' hn hll ih =>
    cases h with
    | tup _ cs hcs hc =>
      refine .tup _ cs (by omega) fun j y v hy hv => ?_
      have hj : j < l.length := by rw [hn]; exact (List.getElem?_eq_some_iff.1 hy).1
      exact ih j _ y (List.getElem?_eq_getElem hj) hy (hc j _ v (List.getElem?_eq_getElem hj) hv)
theorem Loose.one {x y : V} (h : Loose x y) : x.one = true := by cases h <;> rfl

theorem VCallP.loose {P : Program} {f : FuncId} {c c' : Nat} {xs : List V} {r v : V} (h : VCallP P f c xs r c') (hl : Loose r v) : VCallP P f c xs v c := by
  intro w Φ μ vs hm hn ha
  refine Calls.mono (h w Φ μ vs hm hn ha) ?_
  rintro e W' ⟨u, μ', rfl, hm', hr⟩
  refine ⟨u, μ', rfl, ⟨hm'.good, hm'.moved, Nat.le_refl _, hm'.mu0, fun t h1 h2 => absurd h2 (Nat.not_lt.2 h1), fun t t' h1 h2 => absurd h2 (Nat.not_lt.2 h1), fun t k hk => (by cases hk), fun t ht => absurd rfl ht, fun t k hk => (by cases hk)⟩, RepE.of_one (hl.rep (hr.one hl.one))⟩
theorem VSpec.loose {P : Program} {f : FuncId} {c : Nat} {xs : List V} {v : V} {Q : V → Nat → Prop} (h : VSpec P f c xs Q) (hl : ∀ r c', Q r c' → Loose r v) : VCallP P f c xs v c := by
  obtain ⟨r, c', _, h1, h2⟩ := h
  exact h1.loose (hl r c' h2)
/-- a call without arguments that told or tell of memory: at any count -/
theorem VCallP.at {P : Program} {f : FuncId} {c' : Nat} {v : Value} (h : VCallP P f 0 [] (.lit v) c') (c : Nat) : VCallP P f c [] (.lit v) c := by
  intro w Φ μ vs hm hn ha
  have hm0 : Mem ⟨P, 0, w, Φ, 0, μ, noBlk, noGiv⟩ noBlk 0 w μ := ⟨⟨fun t ht => absurd rfl ht, fun t ht => absurd rfl ht, fun t t' ht => absurd rfl ht, fun t ht => absurd ht (Nat.not_lt_zero _), fun b hb => hb.elim, fun t ht => absurd rfl ht, fun b hb => hb.elim, hm.good.glob⟩, ⟨rfl, rfl, rfl, Nat.le_refl _, Grows.refl _, fun _ _ _ _ => rfl⟩, Nat.le_refl _, fun _ _ => rfl, fun t h1 h2 => absurd h2 (Nat.not_lt_zero _), fun t t' h1 h2 => absurd h2 (Nat.not_lt_zero _), fun t k hk => (by cases hk), fun t ht => absurd rfl ht, fun t k hk => (by cases hk)⟩
  refine Calls.mono (h w Φ μ vs hm0 hn (fun j x v hx => by simp at hx)) ?_
  rintro e W' ⟨u, μ', rfl, hm', hr⟩
  refine ⟨u, μ, rfl, ⟨hm.good, ⟨hm'.moved.os, hm'.moved.tape, hm'.moved.output, hm'.moved.size, hm'.moved.grows, fun b hb hg _ => hm'.moved.block b hb hg (fun t ht => absurd rfl ht)⟩, Nat.le_refl _, fun _ _ => rfl, fun t h1 h2 => absurd h2 (Nat.not_lt.2 h1), fun t t' h1 h2 => absurd h2 (Nat.not_lt.2 h1), fun t k hk => (by cases hk), fun t ht => absurd rfl ht, fun t k hk => (by cases hk)⟩, RepE.of_one ?_⟩
  have := hr.one rfl
  rw [rep_lit this]
  exact .lit v

/-! ### reading arguments -/
def dec1 (v : V) : Option Nat := match v with | .lit (.int .u64 (.ofNat n)) => if n < 18446744073709551616 then some n else none | _ => none
def decL (l : List V) : Option (List Nat) := match l with
  | [] => some []
  | x :: r => match dec1 x, decL r with | some n, some l => some (n :: l) | _, _ => none
theorem dec1_some {v : V} {n : Nat} (h : dec1 v = some n) : v = nv n ∧ n < 18446744073709551616 := by
  unfold dec1 at h
  split at h
  · split at h
    · cases h; exact ⟨rfl, by assumption⟩
    · cases h
  · cases h
theorem decL_some {l : List V} {r : List Nat} (h : decL l = some r) : l = r.map nv ∧ Lim 18446744073709551616 r := by
  induction l generalizing r with
  | nil => cases h; exact ⟨rfl, Lim.nil⟩
  | cons x l ih =>
    simp only [decL] at h
    split at h
    · rename_i n l' h1 h2
      cases h
      obtain ⟨rfl, hn⟩ := dec1_some h1
      obtain ⟨rfl, hl⟩ := ih h2
      exact ⟨rfl, hl.cons hn⟩
    · cases h
def shortL (l : List Nat) : Bool := Nat.ble l.length 1000000
/-- limbs, at most a million -/
def decN (v : V) : Option (Tok × List Nat) := match v with
  | .sl t 1 l => match decL l with | some r => if shortL r = true then some (t, r) else none | none => none
  | _ => none
theorem decN_some {v : V} {t : Tok} {l : List Nat} (h : decN v = some (t, l)) : v = nats t l ∧ Lim 18446744073709551616 l ∧ l.length ≤ 1000000 := by
  unfold decN at h
  split at h
  · split at h
    · rename_i r hr
      split at h
      · rename_i hs
        cases h
        obtain ⟨rfl, hl⟩ := decL_some hr
        exact ⟨rfl, hl, Nat.le_of_ble_eq_true hs⟩
      · cases h
    · cases h
  · cases h
def decI (v : V) : Option Nat := match v with | .lit (.int .i64 (.ofNat n)) => if n < 9223372036854775808 then some n else none | _ => none
theorem decI_some {v : V} {n : Nat} (h : decI v = some n) : v = iv n ∧ n < 9223372036854775808 := by
  unfold decI at h
  split at h
  · split at h
    · cases h; exact ⟨rfl, by assumption⟩
    · cases h
  · cases h
def fD {α : Type} (l : List Nat) (k : List Nat → α) : α := match l with | [] => k [] | x :: xs => fN x fun x => fD xs fun xs => k (x :: xs)
theorem fD_eq {α : Type} (l : List Nat) (k : List Nat → α) : fD l k = k l := by
  induction l generalizing k with
  | nil => rfl
  | cons x xs ih => rw [fD, fN_eq, ih]
def unkN (n : Nat) : V := fN n fun n => fD (digs 18446744073709551616 n) fun l => nats .unk l
theorem unkN_eq (n : Nat) : unkN n = nats .unk (digs 18446744073709551616 n) := by unfold unkN; rw [fN_eq, fD_eq]
def toldN (n : Nat) : V := fN n fun n => if Nat.ble (bl n) 67108864 = true then .tup [unkN n, iv 0] else .tup [.sl .unk 1 [], iv 3]

theorem iteO {p : Prop} [Decidable p] {a b : Option V} {v : V} (h : (if p then a else b) = some v) : (p ∧ a = some v) ∨ (¬ p ∧ b = some v) := by
  by_cases g : p
  · rw [if_pos g] at h; exact .inl ⟨g, h⟩
  · rw [if_neg g] at h; exact .inr ⟨g, h⟩
/-! ### answers out of numbers -/
def o1 (g : Nat → V) (xs : List V) : Option V := match xs with | [x] => (match decN x with | some p => some (g (val 18446744073709551616 p.2)) | none => none) | _ => none
def o2 (g : Nat → Nat → V) (xs : List V) : Option V := match xs with | [x, y] => (match decN x, decN y with | some p, some q => some (g (val 18446744073709551616 p.2) (val 18446744073709551616 q.2)) | _, _ => none) | _ => none
def o1n (g : Nat → Nat → V) (xs : List V) : Option V := match xs with | [x, y] => (match decN x, dec1 y with | some p, some q => some (g (val 18446744073709551616 p.2) q) | _, _ => none) | _ => none
def o1i (g : Nat → Nat → Option V) (xs : List V) : Option V := match xs with | [x, y] => (match decN x, decI y with | some p, some q => g (val 18446744073709551616 p.2) q | _, _ => none) | _ => none
def o0n (g : Nat → V) (xs : List V) : Option V := match xs with | [x] => (match dec1 x with | some q => some (g q) | none => none) | _ => none
section
variable {P : Program} {f : FuncId} {xs : List V} {v : V}
theorem o1_ok {g : Nat → V} (h : ∀ t a c, Lim 18446744073709551616 a → a.length ≤ 1000000 → VCallP P f c [nats t a] (g (val 18446744073709551616 a)) c) (e : o1 g xs = some v) (c : Nat) : VCallP P f c xs v c := by
  unfold o1 at e
  split at e
  · split at e
    · rename_i p hp
      cases e
      obtain ⟨rfl, h1, h2⟩ := decN_some hp
      exact h _ _ c h1 h2
    · cases e
  · cases e
theorem o2_ok {g : Nat → Nat → V} (h : ∀ t u a b c, Lim 18446744073709551616 a → Lim 18446744073709551616 b → a.length ≤ 1000000 → b.length ≤ 1000000 → VCallP P f c [nats t a, nats u b] (g (val 18446744073709551616 a) (val 18446744073709551616 b)) c) (e : o2 g xs = some v) (c : Nat) : VCallP P f c xs v c := by
  unfold o2 at e
  split at e
  · split at e
    · rename_i p q hp hq
      cases e
      obtain ⟨rfl, h1, h2⟩ := decN_some hp
      obtain ⟨rfl, h3, h4⟩ := decN_some hq
      exact h _ _ _ _ c h1 h3 h2 h4
    · cases e
  · cases e
theorem o1n_ok {g : Nat → Nat → V} (h : ∀ t a n c, Lim 18446744073709551616 a → n < 18446744073709551616 → a.length ≤ 1000000 → VCallP P f c [nats t a, nv n] (g (val 18446744073709551616 a) n) c) (e : o1n g xs = some v) (c : Nat) : VCallP P f c xs v c := by
  unfold o1n at e
  split at e
  · split at e
    · rename_i p q hp hq
      cases e
      obtain ⟨rfl, h1, h2⟩ := decN_some hp
      obtain ⟨rfl, h3⟩ := dec1_some hq
      exact h _ _ _ c h1 h3 h2
    · cases e
  · cases e
theorem o1i_ok {g : Nat → Nat → Option V} (h : ∀ t a n c v, Lim 18446744073709551616 a → n < 9223372036854775808 → a.length ≤ 1000000 → g (val 18446744073709551616 a) n = some v → VCallP P f c [nats t a, iv n] v c) (e : o1i g xs = some v) (c : Nat) : VCallP P f c xs v c := by
  unfold o1i at e
  split at e
  · split at e
    · rename_i p q hp hq
      obtain ⟨rfl, h1, h2⟩ := decN_some hp
      obtain ⟨rfl, h3⟩ := decI_some hq
      exact h _ _ _ c _ h1 h3 h2 e
    · cases e
  · cases e
theorem o0n_ok {g : Nat → V} (h : ∀ n c, n < 18446744073709551616 → VCallP P f c [nv n] (g n) c) (e : o0n g xs = some v) (c : Nat) : VCallP P f c xs v c := by
  unfold o0n at e
  split at e
  · split at e
    · rename_i q hq
      cases e
      obtain ⟨rfl, h3⟩ := dec1_some hq
      exact h _ c h3
    · cases e
  · cases e
end
end Go.VM
set_option linter.unusedSimpArgs false
set_option linter.unusedVariables false
set_option maxRecDepth 100000
namespace Go.Proofs.Ytladcfeibpddeab
open Go.VM

theorem nil_loose : Loose nil1 (.sl .unk 1 []) := Loose.sl .nil 1 []
theorem blt_of {a b : Nat} : Nat.blt a b = true ↔ a < b := by rw [Nat.blt_eq]
theorem natR_loose {c c' n : Nat} {r : V} (h : NatR c c' n r) : Loose r (unkN n) := by
  obtain ⟨t, rfl, _⟩ := h
  rw [unkN_eq]; exact Loose.nats t _
theorem told_loose {c c' n : Nat} {r : V} (h : Told c c' n r) : Loose r (toldN n) := by
  unfold toldN
  rw [fN_eq]
  rcases h with ⟨h, t, rfl, _⟩ | ⟨h, rfl⟩
  · rw [if_pos (Nat.ble_eq_true_of_le h), unkN_eq]; exact .pair (Loose.nats t _) (.lit _)
  · rw [if_neg (fun e => absurd (Nat.le_of_ble_eq_true e) (by omega))]
    exact .pair nil_loose (.lit _)

def throughN (a d : Nat) : V := if Nat.beq d 0 = true then .tup [.sl .unk 1 [], nv 0, iv 1] else if Nat.ble (bl (a / d)) 67108864 = true then fN (a % d) fun m => .tup [unkN (a / d), nv m, iv 0] else .tup [.sl .unk 1 [], nv 0, iv 3]
def subN (a b : Nat) : V := if Nat.blt a b = true then .tup [.sl .unk 1 [], iv 10] else toldN (a - b)

def orcNat : XOrc := fun f xs =>
  if Nat.beq f F.nat_Length = true then o1 (fun a => fN (bl a) fun n => iv n) xs
  else if Nat.beq f F.nat_Compare = true then o2 (fun a b => if Nat.blt a b = true then iv (-1) else if Nat.beq a b = true then iv 0 else iv 1) xs
  else if Nat.beq f F.nat_From = true then o0n unkN xs
  else if Nat.beq f F.nat_Norm = true then o1 unkN xs
  else if Nat.beq f F.nat_Add = true then o2 (fun a b => toldN (a + b)) xs
  else if Nat.beq f F.nat_Sub = true then o2 subN xs
  else if Nat.beq f F.nat_Times = true then o1n (fun a n => toldN (a * n)) xs
  else if Nat.beq f F.nat_Left = true then o1i (fun a n => if Nat.ble n 1000000 = true then some (toldN (a * 2 ^ n)) else none) xs
  else if Nat.beq f F.mul_Mul = true then o2 (fun a b => toldN (a * b)) xs
  else if Nat.beq f F.mul_Square = true then o1 (fun a => toldN (a * a)) xs
  else if Nat.beq f F.mul_Pow = true then o1i (fun a n => if Nat.ble n 1000000 = true then some (toldN (a ^ n)) else none) xs
  else if Nat.beq f F.nat_Through = true then o1n throughN xs
  else none

theorem orcNat_ok : OrcOk Try.prog orcNat := by
  intro f xs v h c
  unfold orcNat at h
  rcases iteO h with ⟨e, h⟩ | ⟨_, h⟩
  · rw [Nat.eq_of_beq_eq_true e]
    refine o1_ok (fun t a c h1 h2 => (length_spec t a c h1 (by omega)).loose ?_) h c
    rintro r c' rfl
    rw [fN_eq]; exact .lit _
  rcases iteO h with ⟨e, h⟩ | ⟨_, h⟩
  · rw [Nat.eq_of_beq_eq_true e]
    refine o2_ok (fun t u a b c h1 h2 h3 h4 => (compare_spec t u a b c h1 h2 (by omega) (by omega)).loose ?_) h c
    rintro r c' rfl
    unfold cmpI
    by_cases g : val 18446744073709551616 a < val 18446744073709551616 b
    · rw [if_pos g, if_pos (blt_of.2 g)]; exact .lit _
    · rw [if_neg g, if_neg (fun e => g (blt_of.1 e))]
      by_cases g2 : val 18446744073709551616 a = val 18446744073709551616 b
      · rw [if_pos g2, if_pos (by rw [Nat.beq_eq]; exact g2)]; exact .lit _
      · rw [if_neg g2, if_neg (fun e => g2 (Nat.eq_of_beq_eq_true e))]; exact .lit _
  rcases iteO h with ⟨e, h⟩ | ⟨_, h⟩
  · rw [Nat.eq_of_beq_eq_true e]
    exact o0n_ok (fun n c h1 => (from_spec n c h1).loose fun r c' h => natR_loose h) h c
  rcases iteO h with ⟨e, h⟩ | ⟨_, h⟩
  · rw [Nat.eq_of_beq_eq_true e]
    exact o1_ok (fun t a c h1 h2 => (norm_spec t a c h1 (by omega)).loose fun r c' h => natR_loose h) h c
  rcases iteO h with ⟨e, h⟩ | ⟨_, h⟩
  · rw [Nat.eq_of_beq_eq_true e]
    exact o2_ok (fun t u a b c h1 h2 h3 h4 => (add_spec t u a b c h1 h2 (by omega) (by omega)).loose fun r c' h => told_loose h) h c
  rcases iteO h with ⟨e, h⟩ | ⟨_, h⟩
  · rw [Nat.eq_of_beq_eq_true e]
    refine o2_ok (fun t u a b c h1 h2 h3 h4 => (sub_spec t u a b c h1 h2 (by omega) (by omega)).loose ?_) h c
    intro r c' hr
    unfold subN
    split at hr
    · rename_i g
      rw [if_pos (blt_of.2 g), hr]
      exact .pair nil_loose (.lit _)
    · rename_i g
      rw [if_neg (fun e => g (blt_of.1 e))]
      exact told_loose hr
  rcases iteO h with ⟨e, h⟩ | ⟨_, h⟩
  · rw [Nat.eq_of_beq_eq_true e]
    exact o1n_ok (fun t a n c h1 h2 h3 => (times_spec t a n c h1 h2 (by omega)).loose fun r c' h => told_loose h) h c
  rcases iteO h with ⟨e, h⟩ | ⟨_, h⟩
  · rw [Nat.eq_of_beq_eq_true e]
    refine o1i_ok (fun t a n c v h1 h2 h3 he => ?_) h c
    rcases iteO he with ⟨g, he⟩ | ⟨_, he⟩
    · cases he
      exact (left_spec t a n c h1 (by have := Nat.le_of_ble_eq_true g; omega) (by omega)).loose fun r c' h => told_loose h
    · cases he
  rcases iteO h with ⟨e, h⟩ | ⟨_, h⟩
  · rw [Nat.eq_of_beq_eq_true e]
    exact o2_ok (fun t u a b c h1 h2 h3 h4 => (mul_spec t u a b c h1 h2 (by omega) (by omega)).loose fun r c' h => told_loose h) h c
  rcases iteO h with ⟨e, h⟩ | ⟨_, h⟩
  · rw [Nat.eq_of_beq_eq_true e]
    exact o1_ok (g := fun a => toldN (a * a)) (fun t a c h1 h2 => (square_spec t a c h1 (by omega)).loose fun r c' h => told_loose h) h c
  rcases iteO h with ⟨e, h⟩ | ⟨_, h⟩
  · rw [Nat.eq_of_beq_eq_true e]
    refine o1i_ok (fun t a n c v h1 h2 h3 he => ?_) h c
    rcases iteO he with ⟨g, he⟩ | ⟨_, he⟩
    · cases he
      exact (pow_spec t a n c h1 (by omega) h2).loose fun r c' h => told_loose h
    · cases he
  rcases iteO h with ⟨e, h⟩ | ⟨_, h⟩
  · rw [Nat.eq_of_beq_eq_true e]
    refine o1n_ok (g := throughN) (fun t a n c h1 h2 h3 => (through_spec t a n c h1 h2 (by omega)).loose ?_) h c
    rintro r c' ⟨q1, q2, q3⟩
    unfold throughN
    by_cases g : n = 0
    · rw [if_pos (by rw [Nat.beq_eq]; exact g), q1 g]
      exact .triple nil_loose (.lit _) (.lit _)
    · rw [if_neg (fun e => g (Nat.eq_of_beq_eq_true e))]
      by_cases g2 : bl (val 18446744073709551616 a / n) ≤ 67108864
      · obtain ⟨t', rfl, _⟩ := q2 (by omega) g2
        rw [if_pos (Nat.ble_eq_true_of_le g2), fN_eq, unkN_eq]
        exact .triple (Loose.nats _ _) (.lit _) (.lit _)
      · rw [if_neg (fun e => absurd (Nat.le_of_ble_eq_true e) g2), q3 (by omega) (by omega)]
        exact .triple nil_loose (.lit _) (.lit _)
  cases h
end Go.Proofs.Ytladcfeibpddeab
set_option linter.unusedVariables false
set_option maxRecDepth 100000
namespace Go.Proofs.Ytladcfeibpddeab
open Go.VM

theorem X.surdref01_Of : GoodF Try.prog ⟨F.surdref01_Of, C.surdref01_Of, R.surdref01_Of, 26⟩ := ⟨_, _, E.surdref01_Of, B.surdref01_Of, K.surdref01_Of, Q.surdref01_Of, N.surdref01_Of, by kernel_rfl⟩
theorem X.surdlaw04_num : GoodF Try.prog ⟨F.surdlaw04_num, C.surdlaw04_num, R.surdlaw04_num, 4⟩ := ⟨_, _, E.surdlaw04_num, B.surdlaw04_num, K.surdlaw04_num, Q.surdlaw04_num, N.surdlaw04_num, by kernel_rfl⟩
theorem X.surdlaw04_awake : GoodF Try.prog ⟨F.surdlaw04_awake, C.surdlaw04_awake, R.surdlaw04_awake, 23⟩ := ⟨_, _, E.surdlaw04_awake, B.surdlaw04_awake, K.surdlaw04_awake, Q.surdlaw04_awake, N.surdlaw04_awake, by kernel_rfl⟩
theorem X.roots_Root : GoodF Try.prog ⟨F.roots_Root, C.roots_Root, R.roots_Root, 42⟩ := ⟨_, _, E.roots_Root, B.roots_Root, K.roots_Root, Q.roots_Root, N.roots_Root, by kernel_rfl⟩
theorem X.roots_Sqrt : GoodF Try.prog ⟨F.roots_Sqrt, C.roots_Sqrt, R.roots_Sqrt, 10⟩ := ⟨_, _, E.roots_Sqrt, B.roots_Sqrt, K.roots_Sqrt, Q.roots_Sqrt, N.roots_Sqrt, by kernel_rfl⟩
theorem X.surdref01_Num_Is : GoodF Try.prog ⟨F.surdref01_Num_Is, C.surdref01_Num_Is, R.surdref01_Num_Is, 29⟩ := ⟨_, _, E.surdref01_Num_Is, B.surdref01_Num_Is, K.surdref01_Num_Is, Q.surdref01_Num_Is, N.surdref01_Num_Is, by kernel_rfl⟩
theorem X.surdref01_Int : GoodF Try.prog ⟨F.surdref01_Int, C.surdref01_Int, R.surdref01_Int, 7⟩ := ⟨_, _, E.surdref01_Int, B.surdref01_Int, K.surdref01_Int, Q.surdref01_Int, N.surdref01_Int, by kernel_rfl⟩
theorem X.nat_Through : GoodF Try.prog ⟨F.nat_Through, C.nat_Through, R.nat_Through, 48⟩ := ⟨_, _, E.nat_Through, B.nat_Through, K.nat_Through, Q.nat_Through, N.nat_Through, by kernel_rfl⟩
theorem X.surdref01_norm : GoodF Try.prog ⟨F.surdref01_norm, C.surdref01_norm, R.surdref01_norm, 22⟩ := ⟨_, _, E.surdref01_norm, B.surdref01_norm, K.surdref01_norm, Q.surdref01_norm, N.surdref01_norm, by kernel_rfl⟩
theorem X.roots_fits : GoodF Try.prog ⟨F.roots_fits, C.roots_fits, R.roots_fits, 9⟩ := ⟨_, _, E.roots_fits, B.roots_fits, K.roots_fits, Q.roots_fits, N.roots_fits, by kernel_rfl⟩
theorem X.nat_Length : GoodF Try.prog ⟨F.nat_Length, C.nat_Length, R.nat_Length, 20⟩ := ⟨_, _, E.nat_Length, B.nat_Length, K.nat_Length, Q.nat_Length, N.nat_Length, by kernel_rfl⟩
theorem X.roots_newton : GoodF Try.prog ⟨F.roots_newton, C.roots_newton, R.roots_newton, 72⟩ := ⟨_, _, E.roots_newton, B.roots_newton, K.roots_newton, Q.roots_newton, N.roots_newton, by kernel_rfl⟩
theorem X.mul_Pow : GoodF Try.prog ⟨F.mul_Pow, C.mul_Pow, R.mul_Pow, 63⟩ := ⟨_, _, E.mul_Pow, B.mul_Pow, K.mul_Pow, Q.mul_Pow, N.mul_Pow, by kernel_rfl⟩
theorem X.roots_less : GoodF Try.prog ⟨F.roots_less, C.roots_less, R.roots_less, 14⟩ := ⟨_, _, E.roots_less, B.roots_less, K.roots_less, Q.roots_less, N.roots_less, by kernel_rfl⟩
theorem X.nat_Add : GoodF Try.prog ⟨F.nat_Add, C.nat_Add, R.nat_Add, 61⟩ := ⟨_, _, E.nat_Add, B.nat_Add, K.nat_Add, Q.nat_Add, N.nat_Add, by kernel_rfl⟩
theorem X.nat_From : GoodF Try.prog ⟨F.nat_From, C.nat_From, R.nat_From, 7⟩ := ⟨_, _, E.nat_From, B.nat_From, K.nat_From, Q.nat_From, N.nat_From, by kernel_rfl⟩
theorem X.surdref01_Num_Limbs : GoodF Try.prog ⟨F.surdref01_Num_Limbs, C.surdref01_Num_Limbs, R.surdref01_Num_Limbs, 34⟩ := ⟨_, _, E.surdref01_Num_Limbs, B.surdref01_Num_Limbs, K.surdref01_Num_Limbs, Q.surdref01_Num_Limbs, N.surdref01_Num_Limbs, by kernel_rfl⟩
theorem X.mul_Square : GoodF Try.prog ⟨F.mul_Square, C.mul_Square, R.mul_Square, 9⟩ := ⟨_, _, E.mul_Square, B.mul_Square, K.mul_Square, Q.mul_Square, N.mul_Square, by kernel_rfl⟩
theorem X.nat_Compare : GoodF Try.prog ⟨F.nat_Compare, C.nat_Compare, R.nat_Compare, 45⟩ := ⟨_, _, E.nat_Compare, B.nat_Compare, K.nat_Compare, Q.nat_Compare, N.nat_Compare, by kernel_rfl⟩
theorem X.mul_Mul : GoodF Try.prog ⟨F.mul_Mul, C.mul_Mul, R.mul_Mul, 11⟩ := ⟨_, _, E.mul_Mul, B.mul_Mul, K.mul_Mul, Q.mul_Mul, N.mul_Mul, by kernel_rfl⟩
theorem X.div_Quo : GoodF Try.prog ⟨F.div_Quo, C.div_Quo, R.div_Quo, 25⟩ := ⟨_, _, E.div_Quo, B.div_Quo, K.div_Quo, Q.div_Quo, N.div_Quo, by kernel_rfl⟩
theorem X.nat_trim : GoodF Try.prog ⟨F.nat_trim, C.nat_trim, R.nat_trim, 21⟩ := ⟨_, _, E.nat_trim, B.nat_trim, K.nat_trim, Q.nat_trim, N.nat_trim, by kernel_rfl⟩
theorem X.bits_Div64 : GoodF Try.prog ⟨F.bits_Div64, C.bits_Div64, R.bits_Div64, 135⟩ := ⟨_, _, E.bits_Div64, B.bits_Div64, K.bits_Div64, Q.bits_Div64, N.bits_Div64, by kernel_rfl⟩
theorem X.nat_told : GoodF Try.prog ⟨F.nat_told, C.nat_told, R.nat_told, 10⟩ := ⟨_, _, E.nat_told, B.nat_told, K.nat_told, Q.nat_told, N.nat_told, by kernel_rfl⟩
theorem X.nat_Norm : GoodF Try.prog ⟨F.nat_Norm, C.nat_Norm, R.nat_Norm, 6⟩ := ⟨_, _, E.nat_Norm, B.nat_Norm, K.nat_Norm, Q.nat_Norm, N.nat_Norm, by kernel_rfl⟩
theorem X.bits_Len64 : GoodF Try.prog ⟨F.bits_Len64, C.bits_Len64, R.bits_Len64, 25⟩ := ⟨_, _, E.bits_Len64, B.bits_Len64, K.bits_Len64, Q.bits_Len64, N.bits_Len64, by kernel_rfl⟩
theorem X.roots_power : GoodF Try.prog ⟨F.roots_power, C.roots_power, R.roots_power, 12⟩ := ⟨_, _, E.roots_power, B.roots_power, K.roots_power, Q.roots_power, N.roots_power, by kernel_rfl⟩
theorem X.nat_Times : GoodF Try.prog ⟨F.nat_Times, C.nat_Times, R.nat_Times, 56⟩ := ⟨_, _, E.nat_Times, B.nat_Times, K.nat_Times, Q.nat_Times, N.nat_Times, by kernel_rfl⟩
theorem X.nat_Sub : GoodF Try.prog ⟨F.nat_Sub, C.nat_Sub, R.nat_Sub, 52⟩ := ⟨_, _, E.nat_Sub, B.nat_Sub, K.nat_Sub, Q.nat_Sub, N.nat_Sub, by kernel_rfl⟩
theorem X.mul_product : GoodF Try.prog ⟨F.mul_product, C.mul_product, R.mul_product, 22⟩ := ⟨_, _, E.mul_product, B.mul_product, K.mul_product, Q.mul_product, N.mul_product, by kernel_rfl⟩
theorem X.mul_Mul_1 : GoodF Try.prog ⟨F.mul_Mul_1, C.mul_Mul_1, R.mul_Mul_1, 8⟩ := ⟨_, _, E.mul_Mul_1, B.mul_Mul_1, K.mul_Mul_1, Q.mul_Mul_1, N.mul_Mul_1, by kernel_rfl⟩
theorem X.mul_halved : GoodF Try.prog ⟨F.mul_halved, C.mul_halved, R.mul_halved, 124⟩ := ⟨_, _, E.mul_halved, B.mul_halved, K.mul_halved, Q.mul_halved, N.mul_halved, by kernel_rfl⟩
theorem X.div_divide : GoodF Try.prog ⟨F.div_divide, C.div_divide, R.div_divide, 104⟩ := ⟨_, _, E.div_divide, B.div_divide, K.div_divide, Q.div_divide, N.div_divide, by kernel_rfl⟩
theorem X.bits_LeadingZeros64 : GoodF Try.prog ⟨F.bits_LeadingZeros64, C.bits_LeadingZeros64, R.bits_LeadingZeros64, 6⟩ := ⟨_, _, E.bits_LeadingZeros64, B.bits_LeadingZeros64, K.bits_LeadingZeros64, Q.bits_LeadingZeros64, N.bits_LeadingZeros64, by kernel_rfl⟩
theorem X.nat_Left : GoodF Try.prog ⟨F.nat_Left, C.nat_Left, R.nat_Left, 73⟩ := ⟨_, _, E.nat_Left, B.nat_Left, K.nat_Left, Q.nat_Left, N.nat_Left, by kernel_rfl⟩
theorem X.bits_Mul64 : GoodF Try.prog ⟨F.bits_Mul64, C.bits_Mul64, R.bits_Mul64, 51⟩ := ⟨_, _, E.bits_Mul64, B.bits_Mul64, K.bits_Mul64, Q.bits_Mul64, N.bits_Mul64, by kernel_rfl⟩
theorem X.mul_great : GoodF Try.prog ⟨F.mul_great, C.mul_great, R.mul_great, 24⟩ := ⟨_, _, E.mul_great, B.mul_great, K.mul_great, Q.mul_great, N.mul_great, by kernel_rfl⟩
theorem X.mul_fits : GoodF Try.prog ⟨F.mul_fits, C.mul_fits, R.mul_fits, 10⟩ := ⟨_, _, E.mul_fits, B.mul_fits, K.mul_fits, Q.mul_fits, N.mul_fits, by kernel_rfl⟩
theorem X.mul_school : GoodF Try.prog ⟨F.mul_school, C.mul_school, R.mul_school, 78⟩ := ⟨_, _, E.mul_school, B.mul_school, K.mul_school, Q.mul_school, N.mul_school, by kernel_rfl⟩
theorem X.mul_addAt : GoodF Try.prog ⟨F.mul_addAt, C.mul_addAt, R.mul_addAt, 53⟩ := ⟨_, _, E.mul_addAt, B.mul_addAt, K.mul_addAt, Q.mul_addAt, N.mul_addAt, by kernel_rfl⟩
theorem X.mul_part : GoodF Try.prog ⟨F.mul_part, C.mul_part, R.mul_part, 32⟩ := ⟨_, _, E.mul_part, B.mul_part, K.mul_part, Q.mul_part, N.mul_part, by kernel_rfl⟩
theorem X.mul_less : GoodF Try.prog ⟨F.mul_less, C.mul_less, R.mul_less, 43⟩ := ⟨_, _, E.mul_less, B.mul_less, K.mul_less, Q.mul_less, N.mul_less, by kernel_rfl⟩
theorem X.mul_sum : GoodF Try.prog ⟨F.mul_sum, C.mul_sum, R.mul_sum, 20⟩ := ⟨_, _, E.mul_sum, B.mul_sum, K.mul_sum, Q.mul_sum, N.mul_sum, by kernel_rfl⟩
theorem X.div_up : GoodF Try.prog ⟨F.div_up, C.div_up, R.div_up, 39⟩ := ⟨_, _, E.div_up, B.div_up, K.div_up, Q.div_up, N.div_up, by kernel_rfl⟩
theorem X.div_guess : GoodF Try.prog ⟨F.div_guess, C.div_guess, R.div_guess, 195⟩ := ⟨_, _, E.div_guess, B.div_guess, K.div_guess, Q.div_guess, N.div_guess, by kernel_rfl⟩
theorem X.div_down : GoodF Try.prog ⟨F.div_down, C.div_down, R.div_down, 47⟩ := ⟨_, _, E.div_down, B.div_down, K.div_down, Q.div_down, N.div_down, by kernel_rfl⟩
def XT : List XFun := [⟨F.surdref01_Of, C.surdref01_Of, R.surdref01_Of, 26⟩,
  ⟨F.surdlaw04_num, C.surdlaw04_num, R.surdlaw04_num, 4⟩,
  ⟨F.surdlaw04_awake, C.surdlaw04_awake, R.surdlaw04_awake, 23⟩,
  ⟨F.roots_Root, C.roots_Root, R.roots_Root, 42⟩,
  ⟨F.roots_Sqrt, C.roots_Sqrt, R.roots_Sqrt, 10⟩,
  ⟨F.surdref01_Num_Is, C.surdref01_Num_Is, R.surdref01_Num_Is, 29⟩,
  ⟨F.surdref01_Int, C.surdref01_Int, R.surdref01_Int, 7⟩,
  ⟨F.nat_Through, C.nat_Through, R.nat_Through, 48⟩,
  ⟨F.surdref01_norm, C.surdref01_norm, R.surdref01_norm, 22⟩,
  ⟨F.roots_fits, C.roots_fits, R.roots_fits, 9⟩,
  ⟨F.nat_Length, C.nat_Length, R.nat_Length, 20⟩,
  ⟨F.roots_newton, C.roots_newton, R.roots_newton, 72⟩,
  ⟨F.mul_Pow, C.mul_Pow, R.mul_Pow, 63⟩,
  ⟨F.roots_less, C.roots_less, R.roots_less, 14⟩,
  ⟨F.nat_Add, C.nat_Add, R.nat_Add, 61⟩,
  ⟨F.nat_From, C.nat_From, R.nat_From, 7⟩,
  ⟨F.surdref01_Num_Limbs, C.surdref01_Num_Limbs, R.surdref01_Num_Limbs, 34⟩,
  ⟨F.mul_Square, C.mul_Square, R.mul_Square, 9⟩,
  ⟨F.nat_Compare, C.nat_Compare, R.nat_Compare, 45⟩,
  ⟨F.mul_Mul, C.mul_Mul, R.mul_Mul, 11⟩,
  ⟨F.div_Quo, C.div_Quo, R.div_Quo, 25⟩,
  ⟨F.nat_trim, C.nat_trim, R.nat_trim, 21⟩,
  ⟨F.bits_Div64, C.bits_Div64, R.bits_Div64, 135⟩,
  ⟨F.nat_told, C.nat_told, R.nat_told, 10⟩,
  ⟨F.nat_Norm, C.nat_Norm, R.nat_Norm, 6⟩,
  ⟨F.bits_Len64, C.bits_Len64, R.bits_Len64, 25⟩,
  ⟨F.roots_power, C.roots_power, R.roots_power, 12⟩,
  ⟨F.nat_Times, C.nat_Times, R.nat_Times, 56⟩,
  ⟨F.nat_Sub, C.nat_Sub, R.nat_Sub, 52⟩,
  ⟨F.mul_product, C.mul_product, R.mul_product, 22⟩,
  ⟨F.mul_Mul_1, C.mul_Mul_1, R.mul_Mul_1, 8⟩,
  ⟨F.mul_halved, C.mul_halved, R.mul_halved, 124⟩,
  ⟨F.div_divide, C.div_divide, R.div_divide, 104⟩,
  ⟨F.bits_LeadingZeros64, C.bits_LeadingZeros64, R.bits_LeadingZeros64, 6⟩,
  ⟨F.nat_Left, C.nat_Left, R.nat_Left, 73⟩,
  ⟨F.bits_Mul64, C.bits_Mul64, R.bits_Mul64, 51⟩,
  ⟨F.mul_great, C.mul_great, R.mul_great, 24⟩,
  ⟨F.mul_fits, C.mul_fits, R.mul_fits, 10⟩,
  ⟨F.mul_school, C.mul_school, R.mul_school, 78⟩,
  ⟨F.mul_addAt, C.mul_addAt, R.mul_addAt, 53⟩,
  ⟨F.mul_part, C.mul_part, R.mul_part, 32⟩,
  ⟨F.mul_less, C.mul_less, R.mul_less, 43⟩,
  ⟨F.mul_sum, C.mul_sum, R.mul_sum, 20⟩,
  ⟨F.div_up, C.div_up, R.div_up, 39⟩,
  ⟨F.div_guess, C.div_guess, R.div_guess, 195⟩,
  ⟨F.div_down, C.div_down, R.div_down, 47⟩]
theorem XT_good : ∀ e ∈ XT, GoodF Try.prog e := by
  intro e h
  unfold XT at h
  simp only [List.mem_cons, List.not_mem_nil, or_false] at h
  rcases h with rfl | rfl | rfl | rfl | rfl | rfl | rfl | rfl | rfl | rfl | rfl | rfl | rfl | rfl | rfl | rfl | rfl | rfl | rfl | rfl | rfl | rfl | rfl | rfl | rfl | rfl | rfl | rfl | rfl | rfl | rfl | rfl | rfl | rfl | rfl | rfl | rfl | rfl | rfl | rfl | rfl | rfl | rfl | rfl | rfl | rfl
  · exact X.surdref01_Of
  · exact X.surdlaw04_num
  · exact X.surdlaw04_awake
  · exact X.roots_Root
  · exact X.roots_Sqrt
  · exact X.surdref01_Num_Is
  · exact X.surdref01_Int
  · exact X.nat_Through
  · exact X.surdref01_norm
  · exact X.roots_fits
  · exact X.nat_Length
  · exact X.roots_newton
  · exact X.mul_Pow
  · exact X.roots_less
  · exact X.nat_Add
  · exact X.nat_From
  · exact X.surdref01_Num_Limbs
  · exact X.mul_Square
  · exact X.nat_Compare
  · exact X.mul_Mul
  · exact X.div_Quo
  · exact X.nat_trim
  · exact X.bits_Div64
  · exact X.nat_told
  · exact X.nat_Norm
  · exact X.bits_Len64
  · exact X.roots_power
  · exact X.nat_Times
  · exact X.nat_Sub
  · exact X.mul_product
  · exact X.mul_Mul_1
  · exact X.mul_halved
  · exact X.div_divide
  · exact X.bits_LeadingZeros64
  · exact X.nat_Left
  · exact X.bits_Mul64
  · exact X.mul_great
  · exact X.mul_fits
  · exact X.mul_school
  · exact X.mul_addAt
  · exact X.mul_part
  · exact X.mul_less
  · exact X.mul_sum
  · exact X.div_up
  · exact X.div_guess
  · exact X.div_down
end Go.Proofs.Ytladcfeibpddeab
set_option linter.unusedSimpArgs false
set_option linter.unusedVariables false
set_option maxRecDepth 100000
set_option maxHeartbeats 8000000
namespace Go.Proofs.Ytladcfeibpddeab
open Go.VM
theorem awake_spec (c : Nat) : VSpec Try.prog F.surdlaw04_awake c [] (fun r _ => r = bv true) := by
  obtain ⟨c', h⟩ := xcall_p hm orcNat_ok XT_good (lend := fun _ => false) (rounds := 100000) (n := 60) (c := 0) (f := F.surdlaw04_awake) (xs := []) (v := bv true) (by kernel_rfl)
  exact ⟨_, c, Nat.le_refl _, h.at c, rfl⟩
end Go.Proofs.Ytladcfeibpddeab
set_option linter.unusedSimpArgs false
set_option linter.unusedVariables false
set_option maxRecDepth 100000
set_option maxHeartbeats 8000000
namespace Go.Proofs.Ytladcfeibpddeab
open Go.VM

/-! ### rows of rows -/
theorem rows_inj : ∀ {ds : List (Option (Nat × Nat))}, (rowIds ds).Nodup → ∀ {i j t n m : Nat}, ds[i]? = some (some (t, n)) → ds[j]? = some (some (t, m)) → i = j
  | [], _, i, j, t, n, m, h, _ => by simp at h
  | d :: ds, hn, i, j, t, n, m, h, h' => by
    have mem : ∀ {k q : Nat}, ds[k]? = some (some (t, q)) → t ∈ rowIds ds := fun h => List.mem_filterMap.2 ⟨_, List.mem_of_getElem? h, rfl⟩
    have tl : (rowIds ds).Nodup := by
      cases d with
      | none => exact hn
      | some q => exact (List.nodup_cons.1 hn).2
    have hd : ∀ q, d = some (t, q) → t ∉ rowIds ds := by
      rintro q rfl
      exact (List.nodup_cons.1 hn).1
    cases i with
    | zero =>
      cases j with
      | zero => rfl
      | succ j =>
        simp only [List.getElem?_cons_zero, Option.some.injEq] at h
        simp only [List.getElem?_cons_succ] at h'
        exact absurd (mem h') (hd _ h)
    | succ i =>
      cases j with
      | zero =>
        simp only [List.getElem?_cons_zero, Option.some.injEq] at h'
        simp only [List.getElem?_cons_succ] at h
        exact absurd (mem h) (hd _ h')
      | succ j =>
        simp only [List.getElem?_cons_succ] at h h'
        exact congrArg Nat.succ (rows_inj tl h h')

/-- the list of rows, and the rows, in memory -/
structure RowS (σ : Nat → Option Blk) (tL : Nat) (ds : List (Option (Nat × Nat))) : Prop where
  hd : σ tL = some ⟨ds.map rowOf, true⟩
  row : ∀ (i t n : Nat), ds[i]? = some (some (t, n)) → t ≠ tL ∧ n ≤ 4398046511200 ∧ ∃ cells, σ t = some ⟨cells, true⟩ ∧ n ≤ cells.length
  inj : ∀ (i j t n m : Nat), ds[i]? = some (some (t, n)) → ds[j]? = some (some (t, m)) → i = j
/-- the row is written: at k the number f k -/
def Holds (σ : Nat → Option Blk) (d : Option (Nat × Nat)) (f : Nat → Nat) : Prop := ∀ t n, d = some (t, n) → ∃ cells, σ t = some ⟨cells, true⟩ ∧ ∀ k, k < n → cells[k]? = some (nv (f k))
theorem Holds.none {σ : Nat → Option Blk} {f : Nat → Nat} : Holds σ none f := fun t n h => by cases h
theorem Holds.congr {σ : Nat → Option Blk} {d : Option (Nat × Nat)} {f g : Nat → Nat} (h : Holds σ d f) (e : ∀ t n, d = some (t, n) → ∀ k, k < n → f k = g k) : Holds σ d g := fun t n hd => by
  obtain ⟨cells, h1, h2⟩ := h t n hd
  exact ⟨cells, h1, fun k hk => by rw [h2 k hk, e t n hd k hk]⟩
theorem Holds.put {σ : Nat → Option Blk} {d : Option (Nat × Nat)} {f : Nat → Nat} (h : Holds σ d f) {t : Nat} {b : Option Blk} (ht : ∀ n, d ≠ some (t, n)) : Holds (supd σ t b) d f := fun u n hd => by
  obtain ⟨cells, h1, h2⟩ := h u n hd
  refine ⟨cells, ?_, h2⟩
  rw [supd_app, if_neg (fun e => ht n (by rw [← e]; exact hd))]
  exact h1
theorem RowS.put {σ : Nat → Option Blk} {tL : Nat} {ds : List (Option (Nat × Nat))} (h : RowS σ tL ds) {t : Nat} {cells : List V} (ht : t ≠ tL) (hn : ∀ (i n : Nat), ds[i]? = some (some (t, n)) → n ≤ cells.length) : RowS (supd σ t (some ⟨cells, true⟩)) tL ds := by
  refine ⟨?_, fun i u n hi => ?_, h.inj⟩
  · rw [supd_app, if_neg (Ne.symm ht)]; exact h.hd
  · obtain ⟨h1, h2, cs, h3, h4⟩ := h.row i u n hi
    refine ⟨h1, h2, ?_⟩
    by_cases e : u = t
    · subst e
      exact ⟨cells, supd_same _ _ _, hn i n hi⟩
    · exact ⟨cs, by rw [supd_app, if_neg e]; exact h3, h4⟩
theorem RowS.len {σ : Nat → Option Blk} {tL : Nat} {ds : List (Option (Nat × Nat))} (h : RowS σ tL ds) {i : Nat} {d : Option (Nat × Nat)} (hi : ds[i]? = some d) : (ds.map rowOf)[i]? = some (rowOf d) := by
  rw [List.getElem?_map, hi]; rfl

theorem d_cells {cs : List V} {b : Bool} {i : Nat} : dload (some ⟨cs, b⟩) none i = cs[i]? := rfl
theorem t_celln {σ : Nat → Option Blk} {cs : List V} {t i x : Nat} : dstore (some ⟨cs, true⟩) σ t 1 i (nv x) = if i < cs.length then some (supd σ t (some ⟨cs.set i (nv x), true⟩)) else none := by
  have h0 : dstore (some ⟨cs, true⟩) σ t 1 i (nv x) = if true = true ∧ [nv x].length = 1 ∧ i + 1 ≤ cs.length then some (supd σ t (some ⟨putCells cs i [nv x], true⟩)) else none := rfl
  rw [h0]
  by_cases h : i < cs.length
  · rw [if_pos h, if_pos ⟨rfl, rfl, by omega⟩]; rfl
  · rw [if_neg h, if_neg (by omega)]
theorem t_cellb {σ : Nat → Option Blk} {cs : List V} {t i u o m sz : Nat} {cp : Option Nat} : dstore (some ⟨cs, true⟩) σ t 1 i (.buf u o m cp sz) = if i < cs.length then some (supd σ t (some ⟨cs.set i (.buf u o m cp sz), true⟩)) else none := by
  have h0 : dstore (some ⟨cs, true⟩) σ t 1 i (.buf u o m cp sz) = if true = true ∧ [V.buf u o m cp sz].length = 1 ∧ i + 1 ≤ cs.length then some (supd σ t (some ⟨putCells cs i [.buf u o m cp sz], true⟩)) else none := rfl
  rw [h0]
  by_cases h : i < cs.length
  · rw [if_pos h, if_pos ⟨rfl, rfl, by omega⟩]; rfl
  · rw [if_neg h, if_neg (by omega)]

/-- a function that is given rows -/
theorem own_mk {P : Program} (hmx : P.follows .mixedOrders = true) {f : FuncId} {fn : Func} {code : Code} {vc : VC} {rs : List VRes} (hf : P.funcs[f]? = some fn) (hb : fn.body = some code) (hvc : resCode P fn.ntmps code = vc) (hrs : resResults P fn.results.toList = some rs)
    (hn : 1 ≤ fn.ntmps) (h : ∀ (cg tL : Nat) (σg : Nat → Option Blk) (bs : List (Option (Nat × Nat))), RowS σg tL bs → bs.length ≤ 1000000 → (∀ (i t n : Nat), bs[i]? = some (some (t, n)) → n ≤ 4398046511104) → (∀ t k, σg t = some k → t < cg) →
      VWP P 0 vc (retQ rs fun r c' => r = .lit (.bool true)) ⟨Go.VM.start [.buf tL 0 bs.length none 1], σg, cg⟩) : OwnSpec P f := by
  intro cg tL σg bs h1 h2 h3 h4
  by_cases hd : ∀ t k, σg t = some k → t < cg
  · obtain ⟨e, S', he, hq⟩ := h cg tL σg bs ⟨h1, fun i t n hi => by
      obtain ⟨q1, q2, q3⟩ := h3 t n (List.mem_of_getElem? hi)
      exact ⟨q1, by omega, q3⟩, fun i j t n m => rows_inj h4⟩ h2 (fun i t n hi => (h3 t n (List.mem_of_getElem? hi)).2.1) hd
    have key : ∀ r, vresult S' rs = some r → (e = .ret ∨ e = .normal) → r = .lit (.bool true) → ∃ σ' c', VCallsG P f 0 cg noBlk σg [.buf tL 0 bs.length none 1] (.lit (.bool true)) σ' c' := fun r hr he' e1 => by
      subst e1
      exact ⟨noBlk, S'.c, vcallsG_of_exec hmx hf hb hvc hrs (by simpa using hn) he he' hr (fun t k h => by cases h) (fun t h => absurd rfl h)⟩
    cases e with
    | normal => rw [retQ_normal] at hq; obtain ⟨r, hr, h1⟩ := hq; exact key r hr (.inr rfl) h1
    | ret => rw [retQ_ret] at hq; obtain ⟨r, hr, h1⟩ := hq; exact key r hr (.inl rfl) h1
    | exit id => unfold retQ at hq; exact hq.elim
  · refine ⟨noBlk, 0, fun w Φ μ μg giv vs hmm => absurd (fun t k hk => ?_) hd⟩
    rcases hmm.dom t k hk with ⟨_, h⟩ | ⟨h, _⟩
    · exact h
    · exact absurd h (Nat.not_lt_zero _)

theorem v_once {P : Program} {c0 : Nat} {b : VC} {S : VS} {Q : VEx → VS → Prop} (h : VWP P c0 b (fun e S' => match e with | .normal => False | e => Q e S') S) : VWP P c0 (.loop b) Q S := by
  refine vwp_loop (fun _ S' => S' = S) 0 rfl ?_
  rintro n S' rfl
  refine vwp_mono h ?_
  intro e S2 h2
  cases e with
  | normal => exact h2.elim
  | exit j => exact h2
  | ret => exact h2

section
variable {P : Program} {dr : Bool} {c0 : Nat} {ρ : Nat → V} {σ : Nat → Option Blk} {c i : Nat} {r : List VO} {K : VS → Prop}
theorem s_bsl5 {x0 x1 x2 x3 x4 : X} {n0 n1 n2 n3 n4 : Nat} (h0 : x0.ev ρ = nv n0) (h1 : x1.ev ρ = nv n1) (h2 : x2.ev ρ = nv n2) (h3 : x3.ev ρ = nv n3) (h4 : x4.ev ρ = nv n4) (hk : wps P dr c0 r ⟨upd ρ i (nats (.id c) [n0, n1, n2, n3, n4]), σ, c + 1⟩ K) :
    wps P dr c0 (⟨some i, .bsl true 1 5 [.int .u64 0] [(0, (1, x0)), (1, (1, x1)), (2, (1, x2)), (3, (1, x3)), (4, (1, x4))], none⟩ :: r) ⟨ρ, σ, c⟩ K := by
  refine s_eff rfl (by intros; exact fun h => by cases h) (by intros; exact fun h => by cases h) ⟨_, _, _, none, .bsl (cs := [nv n0, nv n1, nv n2, nv n3, nv n4]) ?_, hk⟩
  simp only [partsOf, List.map, h0, h1, h2, h3, h4]
  rfl
theorem s_appmvG {x y : X} {t n : Nat} {cap : Option Nat} {cs : List V} {ys : List Nat} {u : Tok} (hx : x.ev ρ = .buf t 0 n cap 1) (ht : σ t = some ⟨cs, true⟩) (h0 : c0 ≤ t) (hy : y.ev ρ = nats u ys) (hn : n ≤ cs.length) (hb : n + ys.length ≤ 8796093022208)
    (hk : wps P dr c0 r ⟨upd (kill (some (.inl t)) ρ) i (.buf t 0 (n + ys.length) none 1), supd (killσ t σ) t (some ⟨(cs.take n).map (killV t) ++ ys.map nv, true⟩), c⟩ K) : wps P dr c0 (⟨some i, .app 1 8 [.int .u64 0] x y, none⟩ :: r) ⟨ρ, σ, c⟩ K := by
  have hc : vcells 1 σ (y.ev ρ) = some (ys.map nv) := by rw [hy]; cases u <;> rfl
  refine s_eff rfl (by intros; exact fun h => by cases h) (by intros; exact fun h => by cases h) ⟨_, _, _, some (.inl t), .appMove (k := ys.length) hx ht h0 hc (by simp) (by omega) (by omega) (by omega), ?_⟩
  have e : ((cs.take (n * 1)) ++ ys.map nv).map (killV t) = (cs.take n).map (killV t) ++ ys.map nv := by
    rw [Nat.mul_one, List.map_append]
    have : (ys.map nv).map (killV t) = ys.map nv := by rw [List.map_map]; rfl
    rw [this]
  rw [e]
  exact hk
end
theorem killed_at (t : Nat) (ρ : Nat → V) (j : Nat) : kill (some (.inl t)) ρ j = killV t (ρ j) := rfl
theorem killed_lit (t : Nat) (v : Value) : killV t (.lit v) = .lit v := rfl
theorem killed_buf {t u o n sz : Nat} {cp : Option Nat} (h : u ≠ t) : killV t (.buf u o n cp sz) = .buf u o n cp sz := by simp [killV, h]
theorem killσ_at {t : Nat} {σ : Nat → Option Blk} {u : Nat} {cs : List V} {b : Bool} (h : σ u = some ⟨cs, b⟩) : killσ t σ u = some ⟨cs.map (killV t), b⟩ := by simp [killσ, h]

def rowLen : Option (Nat × Nat) → Nat
  | none => 0
  | some q => q.2

theorem Holds.kill {σ : Nat → Option Blk} {d : Option (Nat × Nat)} {f : Nat → Nat} (h : Holds σ d f) (t : Nat) : Holds (killσ t σ) d f := fun u n hd => by
  obtain ⟨cells, h1, h2⟩ := h u n hd
  exact ⟨_, killσ_at h1, fun k hk => by rw [List.getElem?_map, h2 k hk]; rfl⟩

theorem set_get {ds : List (Option (Nat × Nat))} {i j : Nat} {d x : Option (Nat × Nat)} (h : (ds.set i x)[j]? = some d) : (j = i ∧ d = x) ∨ (j ≠ i ∧ ds[j]? = some d) := by
  rw [List.getElem?_set] at h
  split at h
  · rename_i e
    split at h
    · exact .inl ⟨e.symm, by cases h; rfl⟩
    · cases h
  · rename_i e; exact .inr ⟨fun q => e q.symm, h⟩

/-- a row has grown where it may lie anew -/
theorem RowS.grow {σ : Nat → Option Blk} {tL : Nat} {ds : List (Option (Nat × Nat))} (h : RowS σ tL ds) {i t m : Nat} (hi : ds[i]? = some (some (t, m))) {cs ys : List V} (hn : (m + 5 ≤ cs.length)) (hm2 : m + 5 ≤ 4398046511200) :
    RowS (supd (supd (killσ t σ) t (some ⟨cs, true⟩)) tL (some ⟨((ds.map rowOf).map (killV t)).set i (.buf t 0 (m + 5) none 1), true⟩)) tL (ds.set i (some (t, m + 5))) := by
  have hne := (h.row i t m hi).1
  have hil : i < ds.length := (List.getElem?_eq_some_iff.1 hi).1
  refine ⟨?_, fun j u n hj => ?_, fun j k u n n' hj hk => ?_⟩
  · rw [supd_same]
    refine congrArg some (congrArg (fun l => (⟨l, true⟩ : Blk)) ?_)
    refine List.ext_getElem? fun j => ?_
    rw [List.map_set, List.getElem?_set, List.getElem?_set]
    simp only [List.length_map]
    by_cases e : i = j
    · subst e; rw [if_pos rfl, if_pos rfl]; rfl
    · rw [if_neg e, if_neg e, List.getElem?_map, List.getElem?_map]
      cases hj : ds[j]? with
      | none => rfl
      | some d =>
        cases d with
        | none => rfl
        | some q =>
          obtain ⟨u, n⟩ := q
          have : u ≠ t := by rintro rfl; exact e (h.inj i j u m n hi hj)
          simp only [Option.map, rowOf, killed_buf this]
  · rcases set_get hj with ⟨rfl, e⟩ | ⟨e, hj2⟩
    · cases e
      exact ⟨hne, hm2, cs, by rw [supd_ne _ _ _ _ hne, supd_same], hn⟩
    · obtain ⟨q1, q2, cells, q3, q4⟩ := h.row j u n hj2
      have : u ≠ t := by rintro rfl; exact e (h.inj j i u n m hj2 hi)
      exact ⟨q1, q2, _, by rw [supd_ne _ _ _ _ q1, supd_ne _ _ _ _ this]; exact killσ_at q3, by simpa using q4⟩
  · rcases set_get hj with ⟨rfl, e⟩ | ⟨e, hj2⟩ <;> rcases set_get hk with ⟨rfl, e'⟩ | ⟨e', hk2⟩
    · rfl
    · cases e; exact absurd (h.inj _ _ _ _ _ hk2 hi) e'
    · cases e'; exact absurd (h.inj _ _ _ _ _ hj2 hi) e
    · exact h.inj _ _ _ _ _ hj2 hk2
/-- an empty list has got a row -/
theorem RowS.fresh {σ : Nat → Option Blk} {tL : Nat} {ds : List (Option (Nat × Nat))} (h : RowS σ tL ds) {i t : Nat} (hi : ds[i]? = some none) {cs : List V} (hn : (5 ≤ cs.length)) (hd : ∀ u k, σ u = some k → u < t) :
    RowS (supd (supd σ t (some ⟨cs, true⟩)) tL (some ⟨(ds.map rowOf).set i (.buf t 0 5 none 1), true⟩)) tL (ds.set i (some (t, 5))) := by
  have hne : t ≠ tL := fun e => by have := hd tL _ h.hd; omega
  have hil : i < ds.length := (List.getElem?_eq_some_iff.1 hi).1
  have hnew : ∀ (j u n : Nat), ds[j]? = some (some (u, n)) → u ≠ t := fun j u n hj e => by
    obtain ⟨_, _, cells, q, _⟩ := h.row j u n hj
    have := hd u _ q
    omega
  refine ⟨?_, fun j u n hj => ?_, fun j k u n n' hj hk => ?_⟩
  · rw [supd_same]
    refine congrArg some (congrArg (fun l => (⟨l, true⟩ : Blk)) ?_)
    rw [List.map_set]; rfl
  · rcases set_get hj with ⟨rfl, e⟩ | ⟨e, hj2⟩
    · cases e
      exact ⟨hne, by omega, cs, by rw [supd_ne _ _ _ _ hne, supd_same], hn⟩
    · obtain ⟨q1, q2, cells, q3, q4⟩ := h.row j u n hj2
      exact ⟨q1, q2, cells, by rw [supd_ne _ _ _ _ q1, supd_ne _ _ _ _ (hnew j u n hj2)]; exact q3, q4⟩
  · rcases set_get hj with ⟨rfl, e⟩ | ⟨e, hj2⟩ <;> rcases set_get hk with ⟨rfl, e'⟩ | ⟨e', hk2⟩
    · rfl
    · cases e; exact absurd rfl (hnew _ _ _ hk2)
    · cases e'; exact absurd rfl (hnew _ _ _ hj2)
    · exact h.inj _ _ _ _ _ hj2 hk2

def f1 (j : Nat) : Nat → Nat := fun _ => j % 251 + 1
def f2 (j m : Nat) : Nat → Nat := fun k => if k < m then j % 251 + 1 else 300 + 5 * j + (k - m)
def Dom (σ : Nat → Option Blk) (c : Nat) : Prop := ∀ t k, σ t = some k → t < c
theorem Dom.put {σ : Nat → Option Blk} {c : Nat} (h : Dom σ c) {t : Nat} {b : Option Blk} (ht : t < c) : Dom (supd σ t b) c := fun u k hk => by
  rw [supd_app] at hk
  split at hk
  · rename_i e; rw [e]; exact ht
  · exact h u k hk

theorem own_spec : OwnSpec Try.prog F.surdref01_Own := by
  refine own_mk hm E.surdref01_Own B.surdref01_Own K.surdref01_Own Q.surdref01_Own (by rw [N.surdref01_Own]; decide) ?_
  unfold C.surdref01_Own R.surdref01_Own
  intro cg tL σg bs hR hlen hsz hcg
  (repeat (first | refine v_reg ?_ | refine v_last ?_ | refine vwp_seq ?_ | refine vwp_block ?_ | refine vwp_skip ?_ | refine vwp_exit ?_ | refine vwp_ret ?_ | refine v_cond ?_ | simp only [vm, ite_true, ite_false, eq_self, reduceIte, Nat.reduceEqDiff, Option.map] | refine And.intro (by omega) ?_))
  refine v_loop (fun S => S.ρ 0 = .buf tL 0 bs.length none 1 ∧ RowS S.σ tL bs ∧ (∀ (j : Nat) d, bs[j]? = some d → Holds S.σ d (f1 j)) ∧ Dom S.σ S.c) ?_ ?_
  · refine vwp_loop (fun k S => ∃ i, k = bs.length - i ∧ i ≤ bs.length ∧ S.ρ 0 = .buf tL 0 bs.length none 1 ∧ S.ρ 13 = .buf tL 0 bs.length none 1 ∧ S.ρ 14 = iv (bs.length : Int) ∧ S.ρ 15 = iv (i : Int) ∧ RowS S.σ tL bs ∧ (∀ (j : Nat) d, j < i → bs[j]? = some d → Holds S.σ d (f1 j)) ∧ Dom S.σ S.c) bs.length ?_ ?_
    · exact ⟨0, rfl, Nat.zero_le _, rfl, rfl, rfl, rfl, hR, fun j d h => absurd h (Nat.not_lt_zero _), hcg⟩
    rintro k ⟨ρ2, σ, c2⟩ ⟨i, hk, hin, h0, h13, h14, h15, hR, hH, hc⟩
    dsimp only at h0 h13 h14 h15 hR hH hc
    by_cases g : (i : Int) < bs.length
    · have hil : i < bs.length := by omega
      have hdi := List.getElem?_eq_getElem hil
      have hdr := hR.len hdi
      have hL := hR.hd
      cases hd : bs[i] with
      | none =>
        rw [hd] at hdi hdr
        simp only [rowOf] at hdr
        have z0 : ¬ (0 : Int) < 0 := by decide
        have e1 : (i : Int) + 1 = ((i + 1 : Nat) : Int) := by omega
        (repeat (first | refine v_reg ?_ | refine v_last ?_ | refine vwp_seq ?_ | refine vwp_block ?_ | refine vwp_skip ?_ | refine vwp_exit ?_ | refine vwp_ret ?_ | refine v_cond ?_ | simp only [vm, ite_true, ite_false, eq_self, reduceIte, Nat.reduceEqDiff, Option.map, h0, h13, h14, h15, g, hL, d_cells, hdr, l_nil] | refine And.intro (by omega) ?_))
        refine v_once ?_
        (repeat (first | refine v_reg ?_ | refine v_last ?_ | refine vwp_seq ?_ | refine vwp_block ?_ | refine vwp_skip ?_ | refine vwp_exit ?_ | refine vwp_ret ?_ | refine v_cond ?_ | simp only [vm, ite_true, ite_false, eq_self, reduceIte, Nat.reduceEqDiff, Option.map, z0, h0, h13, h14, h15, e1] | refine And.intro (by omega) ?_))
        have a1 : ∀ (j : Nat) d, j < i + 1 → bs[j]? = some d → Holds σ d (f1 j) := fun j d hj hjd => by
          by_cases e : j = i
          · subst e; rw [hdi] at hjd; cases hjd; exact Holds.none
          · exact hH j d (by omega) hjd
        refine ⟨bs.length - (i + 1), by omega, i + 1, ?_⟩
        (repeat' apply And.intro) <;> first | rfl | omega | assumption | exact a1
      | some q =>
        obtain ⟨t, m⟩ := q
        rw [hd] at hdi hdr
        simp only [rowOf] at hdr
        have e1 : (i : Int) + 1 = ((i + 1 : Nat) : Int) := by omega
        have hm2 := hsz i t m hdi
        (repeat (first | refine v_reg ?_ | refine v_last ?_ | refine vwp_seq ?_ | refine vwp_block ?_ | refine vwp_skip ?_ | refine vwp_exit ?_ | refine vwp_ret ?_ | refine v_cond ?_ | simp only [vm, ite_true, ite_false, eq_self, reduceIte, Nat.reduceEqDiff, Option.map, h0, h13, h14, h15, g, hL, d_cells, hdr] | refine And.intro (by omega) ?_))
        refine vwp_mono (Q := fun e S => e = .exit 2 ∧ S.ρ 0 = .buf tL 0 bs.length none 1 ∧ S.ρ 13 = .buf tL 0 bs.length none 1 ∧ S.ρ 14 = iv (bs.length : Int) ∧ S.ρ 15 = iv (i : Int) ∧ RowS S.σ tL bs ∧ (∀ (j : Nat) d, j < i + 1 → bs[j]? = some d → Holds S.σ d (f1 j)) ∧ Dom S.σ S.c) ?_ ?_
        · refine vwp_loop (fun k2 S => ∃ q, k2 = m - q ∧ q ≤ m ∧ S.ρ 0 = .buf tL 0 bs.length none 1 ∧ S.ρ 13 = .buf tL 0 bs.length none 1 ∧ S.ρ 14 = iv (bs.length : Int) ∧ S.ρ 15 = iv (i : Int) ∧ S.ρ 3 = iv (i : Int) ∧ S.ρ 4 = .buf t 0 m none 1 ∧ S.ρ 21 = iv (m : Int) ∧ S.ρ 22 = iv (q : Int) ∧ RowS S.σ tL bs ∧ (∀ (j : Nat) d, j < i → bs[j]? = some d → Holds S.σ d (f1 j)) ∧ Dom S.σ S.c ∧ Holds S.σ (some (t, q)) (f1 i)) m ?_ ?_
          · refine ⟨0, rfl, Nat.zero_le _, ?_⟩
            simp only [vm, ite_true, ite_false, eq_self, reduceIte, Nat.reduceEqDiff, Option.map, h0, h13, h14, h15]
            obtain ⟨_, _, cells, q3, q4⟩ := hR.row i t m hdi
            have a1 : Holds σ (some (t, 0)) (f1 i) := fun u n h => by cases h; exact ⟨cells, q3, fun k hk => absurd hk (Nat.not_lt_zero _)⟩
            (repeat' apply And.intro) <;> first | rfl | omega | assumption | exact hR | exact hH | exact hc | exact a1
          rintro k2 ⟨ρ3, σ3, c3⟩ ⟨q, hk2, hq, h0, h13, h14, h15, h3, h4, h21, h22, hR3, hH3, hc3, hq3⟩
          dsimp only at h0 h13 h14 h15 h3 h4 h21 h22 hR3 hH3 hc3 hq3
          by_cases g2 : (q : Int) < m
          · obtain ⟨htL, _, cells, q3, q4⟩ := hR3.row i t m hdi
            obtain ⟨cells', q3', q5⟩ := hq3 t q rfl
            obtain rfl : cells' = cells := by rw [q3] at q3'; cases q3'; rfl
            have hql : q < cells'.length := by omega
            have e2 : ((i : Int) % 251 + 1).toNat = i % 251 + 1 := by omega
            have e3 : (q : Int) + 1 = ((q + 1 : Nat) : Int) := by omega
            (repeat (first | refine v_reg ?_ | refine v_last ?_ | refine vwp_seq ?_ | refine vwp_block ?_ | refine vwp_skip ?_ | refine vwp_exit ?_ | refine vwp_ret ?_ | refine v_cond ?_ | simp only [vm, ite_true, ite_false, eq_self, reduceIte, Nat.reduceEqDiff, Option.map, h0, h13, h14, h15, h3, h4, h21, h22, g2, e2, q3, t_celln, hql, e3] | refine And.intro (by omega) ?_))
            have a1 := hR3.put (cells := cells'.set q (nv (i % 251 + 1))) htL (fun j n hj => by rw [List.length_set]; have := hR3.inj i j t m n hdi hj; subst this; rw [hdi] at hj; cases hj; exact q4)
            have a2 : ∀ (j : Nat) d, j < i → bs[j]? = some d → Holds (supd σ3 t (some ⟨cells'.set q (nv (i % 251 + 1)), true⟩)) d (f1 j) := fun j d hj hjd => (hH3 j d hj hjd).put (fun n e => by subst e; have := hR3.inj i j t m n hdi hjd; omega)
            have a3 := hc3.put (b := some ⟨cells'.set q (nv (i % 251 + 1)), true⟩) (hc3 _ _ q3)
            have a4 : Holds (supd σ3 t (some ⟨cells'.set q (nv (i % 251 + 1)), true⟩)) (some (t, q + 1)) (f1 i) := fun u n h => by
              cases h
              refine ⟨_, supd_same _ _ _, fun k hk => ?_⟩
              rw [List.getElem?_set]
              by_cases e : q = k
              · subst e; rw [if_pos rfl, if_pos hql]; rfl
              · rw [if_neg e]; exact q5 k (by omega)
            refine ⟨m - (q + 1), by omega, q + 1, ?_⟩
            (repeat' apply And.intro) <;> first | rfl | omega | assumption | exact a4
          · have hqm : q = m := by omega
            (repeat (first | refine v_reg ?_ | refine v_last ?_ | refine vwp_seq ?_ | refine vwp_block ?_ | refine vwp_skip ?_ | refine vwp_exit ?_ | refine vwp_ret ?_ | refine v_cond ?_ | simp only [vm, ite_true, ite_false, eq_self, reduceIte, Nat.reduceEqDiff, Option.map, h0, h13, h14, h15, h3, h4, h21, h22, g2] | refine And.intro (by omega) ?_))
            refine ⟨fun j d hj hjd => ?_, hc3⟩
            by_cases e : j = i
            · subst e; rw [hdi] at hjd; cases hjd; rw [← hqm]; exact hq3
            · exact hH3 j d (by omega) hjd
        · rintro _ ⟨ρ3, σ3, c3⟩ ⟨rfl, h0, h13, h14, h15, hR3, hH3, hc3⟩
          dsimp only at h0 h13 h14 h15 hR3 hH3 hc3
          (repeat (first | refine v_reg ?_ | refine v_last ?_ | refine vwp_seq ?_ | refine vwp_block ?_ | refine vwp_skip ?_ | refine vwp_exit ?_ | refine vwp_ret ?_ | refine v_cond ?_ | simp only [vm, ite_true, ite_false, eq_self, reduceIte, Nat.reduceEqDiff, Option.map, h0, h13, h14, h15, e1] | refine And.intro (by omega) ?_))
          refine ⟨bs.length - (i + 1), by omega, i + 1, ?_⟩
          (repeat' apply And.intro) <;> first | rfl | omega | assumption | exact hc3
    · (repeat (first | refine v_reg ?_ | refine v_last ?_ | refine vwp_seq ?_ | refine vwp_block ?_ | refine vwp_skip ?_ | refine vwp_exit ?_ | refine vwp_ret ?_ | refine v_cond ?_ | simp only [vm, ite_true, ite_false, eq_self, reduceIte, Nat.reduceEqDiff, Option.map, h0, h13, h14, h15, g] | refine And.intro (by omega) ?_))
      exact ⟨fun j d hj => hH j d (by have := (List.getElem?_eq_some_iff.1 hj).1; omega) hj, hc⟩
  rintro ⟨ρ2, σ2, c2⟩ ⟨h0, hR2, hH2, hc2⟩
  dsimp only at h0 hR2 hH2 hc2
  (repeat (first | refine v_reg ?_ | refine v_last ?_ | refine vwp_seq ?_ | refine vwp_block ?_ | refine vwp_skip ?_ | refine vwp_exit ?_ | refine vwp_ret ?_ | refine v_cond ?_ | simp only [vm, ite_true, ite_false, eq_self, reduceIte, Nat.reduceEqDiff, Option.map, h0] | refine And.intro (by omega) ?_))
  refine v_loop (fun S => S.ρ 0 = .buf tL 0 bs.length none 1 ∧ ∃ ds, ds.length = bs.length ∧ RowS S.σ tL ds ∧ (∀ (j : Nat), j < bs.length → ∃ t, ds[j]? = some (some (t, rowLen (bs.getD j none) + 5)) ∧ Holds S.σ (some (t, rowLen (bs.getD j none) + 5)) (f2 j (rowLen (bs.getD j none)))) ∧ Dom S.σ S.c) ?_ ?_
  · refine vwp_loop (fun k S => ∃ i, k = bs.length - i ∧ i ≤ bs.length ∧ S.ρ 0 = .buf tL 0 bs.length none 1 ∧ S.ρ 34 = .buf tL 0 bs.length none 1 ∧ S.ρ 35 = iv (bs.length : Int) ∧ S.ρ 36 = iv (i : Int) ∧ ∃ ds, ds.length = bs.length ∧ RowS S.σ tL ds ∧
      (∀ (j : Nat), j < i → ∃ t, ds[j]? = some (some (t, rowLen (bs.getD j none) + 5)) ∧ Holds S.σ (some (t, rowLen (bs.getD j none) + 5)) (f2 j (rowLen (bs.getD j none)))) ∧
      (∀ (j : Nat) d, i ≤ j → bs[j]? = some d → ds[j]? = some d ∧ Holds S.σ d (f1 j)) ∧ Dom S.σ S.c) bs.length ?_ ?_
    · exact ⟨0, rfl, Nat.zero_le _, h0, rfl, rfl, rfl, bs, rfl, hR2, fun j h => absurd h (Nat.not_lt_zero _), fun j d _ h => ⟨h, hH2 j d h⟩, hc2⟩
    rintro k ⟨ρ3, σ, c3⟩ ⟨i, hk, hin, h0, h34, h35, h36, ds, hdl, hR, hA, hB, hc⟩
    dsimp only at h0 h34 h35 h36 hR hA hB hc
    by_cases g : (i : Int) < bs.length
    · have hil : i < bs.length := by omega
      have hbi := List.getElem?_eq_getElem hil
      obtain ⟨hdi, hHi⟩ := hB i _ (Nat.le_refl _) hbi
      have hdr := hR.len hdi
      have hL := hR.hd
      have e1 : (i : Int) + 1 = ((i + 1 : Nat) : Int) := by omega
      have e2 : (300 + 5 * (i : Int)).toNat = 300 + 5 * i := by omega
      have m1 : (300 + 5 * i + 1) % 18446744073709551616 = 300 + 5 * i + 1 := Nat.mod_eq_of_lt (by omega)
      have m2 : (300 + 5 * i + 2) % 18446744073709551616 = 300 + 5 * i + 2 := Nat.mod_eq_of_lt (by omega)
      have m3 : (300 + 5 * i + 3) % 18446744073709551616 = 300 + 5 * i + 3 := Nat.mod_eq_of_lt (by omega)
      have m4 : (300 + 5 * i + 4) % 18446744073709551616 = 300 + 5 * i + 4 := Nat.mod_eq_of_lt (by omega)
      obtain ⟨ys, hys⟩ : ∃ ys, ys = [300 + 5 * i, 300 + 5 * i + 1, 300 + 5 * i + 2, 300 + 5 * i + 3, 300 + 5 * i + 4] := ⟨_, rfl⟩
      have hyl : ys.length = 5 := by rw [hys]; rfl
      have hyk : ∀ k, k < 5 → (ys.map nv)[k]? = some (nv (300 + 5 * i + k)) := fun k hk => by
        rw [hys]
        match k, hk with
        | 0, _ => rfl
        | 1, _ => rfl
        | 2, _ => rfl
        | 3, _ => rfl
        | 4, _ => rfl
      cases hd : bs[i] with
      | none =>
        rw [hd] at hdi hdr hbi hHi
        simp only [rowOf] at hdr
        have hrl : rowLen (bs.getD i none) = 0 := by rw [List.getD_eq_getElem?_getD, hbi]; rfl
        (repeat (first | refine v_reg ?_ | refine v_last ?_ | refine vwp_seq ?_ | refine vwp_block ?_ | refine vwp_skip ?_ | refine vwp_exit ?_ | refine vwp_ret ?_ | refine v_cond ?_ | simp only [vm, ite_true, ite_false, eq_self, reduceIte, Nat.reduceEqDiff, Option.map, h0, h34, h35, h36, g, hL, d_cells, hdr, e2, m1, m2, m3, m4] | refine And.intro (by omega) ?_))
        refine s_bsl5 (n0 := 300 + 5 * i) (n1 := 300 + 5 * i + 1) (n2 := 300 + 5 * i + 2) (n3 := 300 + 5 * i + 3) (n4 := 300 + 5 * i + 4) (by simp only [vm, ite_true, ite_false, eq_self, reduceIte, Nat.reduceEqDiff, Option.map]) (by simp only [vm, ite_true, ite_false, eq_self, reduceIte, Nat.reduceEqDiff, Option.map]) (by simp only [vm, ite_true, ite_false, eq_self, reduceIte, Nat.reduceEqDiff, Option.map]) (by simp only [vm, ite_true, ite_false, eq_self, reduceIte, Nat.reduceEqDiff, Option.map]) (by simp only [vm, ite_true, ite_false, eq_self, reduceIte, Nat.reduceEqDiff, Option.map]) ?_
        rw [← hys]
        refine s_app0 (t := .id c3) (l := ys) (by simp only [vm, ite_true, ite_false, eq_self, reduceIte, Nat.reduceEqDiff, Option.map]) (by simp only [vm, ite_true, ite_false, eq_self, reduceIte, Nat.reduceEqDiff, Option.map]) (by omega) (fun e => by rw [e] at hyl; cases hyl) (fun _ => ?_)
        have htL : tL ≠ c3 + 1 := fun e => by have := hc tL _ hL; omega
        have hil2 : i < (ds.map rowOf).length := by rw [List.length_map, hdl]; exact hil
        (repeat (first | refine v_reg ?_ | refine v_last ?_ | refine vwp_seq ?_ | refine vwp_block ?_ | refine vwp_skip ?_ | refine vwp_exit ?_ | refine vwp_ret ?_ | refine v_cond ?_ | simp only [vm, ite_true, ite_false, eq_self, reduceIte, Nat.reduceEqDiff, Option.map, h0, h34, h35, h36, hL, htL, t_cellb, hil2, hyl, e1] | refine And.intro (by omega) ?_))
        have a1 := hR.fresh (t := c3 + 1) (cs := ys.map nv) hdi (by simp [hyl]) (fun u k hk => by have := hc u k hk; omega)
        have a3 : ∀ (j u n n' : Nat) (f : Nat → Nat), ds[j]? = some (some (u, n)) → Holds σ (some (u, n')) f → Holds (supd (supd σ (c3 + 1) (nblk ys)) tL (some ⟨(ds.map rowOf).set i (.buf (c3 + 1) 0 5 none 1), true⟩)) (some (u, n')) f := fun j u n n' f h hf => by
          obtain ⟨q1, _, cells, q3, _⟩ := hR.row j u n h
          have q4 : u ≠ c3 + 1 := fun e => by have := hc u _ q3; omega
          exact (hf.put (fun x e => q4 (by cases e; rfl))).put (fun x e => q1 (by cases e; rfl))
        have a4 : Holds (supd (supd σ (c3 + 1) (nblk ys)) tL (some ⟨(ds.map rowOf).set i (.buf (c3 + 1) 0 5 none 1), true⟩)) (some (c3 + 1, 0 + 5)) (f2 i 0) := fun u n e => by
          cases e
          refine ⟨_, by rw [supd_ne _ _ _ _ (Ne.symm htL), supd_same], fun k hk => ?_⟩
          rw [hyk k (by omega)]
          rfl
        refine ⟨bs.length - (i + 1), by omega, i + 1, rfl, by omega, rfl, ds.set i (some (c3 + 1, 5)), by rw [List.length_set, hdl], a1, fun j hj => ?_, fun j d hj hjd => ?_, ?_⟩
        · by_cases e : j = i
          · subst e
            rw [hrl]
            exact ⟨c3 + 1, by rw [List.getElem?_set_self (by omega)], a4⟩
          · obtain ⟨u, q1, q2⟩ := hA j (by omega)
            exact ⟨u, by rw [List.getElem?_set_ne (Ne.symm e)]; exact q1, a3 j u _ _ _ q1 q2⟩
        · obtain ⟨q1, q2⟩ := hB j d (by omega) hjd
          refine ⟨by rw [List.getElem?_set_ne (by omega)]; exact q1, ?_⟩
          cases d with
          | none => exact Holds.none
          | some q => obtain ⟨u, n⟩ := q; exact a3 j u n n _ q1 q2
        · have hc' : Dom σ (c3 + 1 + 1) := fun u k hk => by have := hc u k hk; omega
          exact (hc'.put (by omega)).put (by have := hc tL _ hL; omega)
      | some q =>
        obtain ⟨t, m⟩ := q
        rw [hd] at hdi hdr hbi hHi
        simp only [rowOf] at hdr
        have hrl : rowLen (bs.getD i none) = m := by rw [List.getD_eq_getElem?_getD, hbi]; rfl
        have hm2 := hsz i t m hbi
        obtain ⟨htL, _, cells, q3, q4⟩ := hR.row i t m hdi
        (repeat (first | refine v_reg ?_ | refine v_last ?_ | refine vwp_seq ?_ | refine vwp_block ?_ | refine vwp_skip ?_ | refine vwp_exit ?_ | refine vwp_ret ?_ | refine v_cond ?_ | simp only [vm, ite_true, ite_false, eq_self, reduceIte, Nat.reduceEqDiff, Option.map, h0, h34, h35, h36, g, hL, d_cells, hdr, e2, m1, m2, m3, m4] | refine And.intro (by omega) ?_))
        refine s_bsl5 (n0 := 300 + 5 * i) (n1 := 300 + 5 * i + 1) (n2 := 300 + 5 * i + 2) (n3 := 300 + 5 * i + 3) (n4 := 300 + 5 * i + 4) (by simp only [vm, ite_true, ite_false, eq_self, reduceIte, Nat.reduceEqDiff, Option.map]) (by simp only [vm, ite_true, ite_false, eq_self, reduceIte, Nat.reduceEqDiff, Option.map]) (by simp only [vm, ite_true, ite_false, eq_self, reduceIte, Nat.reduceEqDiff, Option.map]) (by simp only [vm, ite_true, ite_false, eq_self, reduceIte, Nat.reduceEqDiff, Option.map]) (by simp only [vm, ite_true, ite_false, eq_self, reduceIte, Nat.reduceEqDiff, Option.map]) ?_
        rw [← hys]
        refine s_appmvG (t := t) (n := m) (cap := none) (cs := cells) (u := .id c3) (ys := ys) (by simp only [vm, ite_true, ite_false, eq_self, reduceIte, Nat.reduceEqDiff, Option.map]) q3 (Nat.zero_le _) (by simp only [vm, ite_true, ite_false, eq_self, reduceIte, Nat.reduceEqDiff, Option.map]) q4 (by omega) ?_
        have hil2 : i < ((ds.map rowOf).map (killV t)).length := by rw [List.length_map, List.length_map, hdl]; exact hil
        have hL2 : killσ t σ tL = some ⟨(ds.map rowOf).map (killV t), true⟩ := killσ_at hL
        have hkb : killV t (.buf tL 0 bs.length none 1) = .buf tL 0 bs.length none 1 := killed_buf (Ne.symm htL)
        (repeat (first | refine v_reg ?_ | refine v_last ?_ | refine vwp_seq ?_ | refine vwp_block ?_ | refine vwp_skip ?_ | refine vwp_exit ?_ | refine vwp_ret ?_ | refine v_cond ?_ | simp only [vm, ite_true, ite_false, eq_self, reduceIte, Nat.reduceEqDiff, Option.map, h0, h34, h35, h36, hL2, htL, Ne.symm htL, t_cellb, hil2, hyl, e1, killed_at, killed_lit, hkb] | refine And.intro (by omega) ?_))
        obtain ⟨cs2, hcs2⟩ : ∃ x, x = List.map (killV t) (List.take m cells) ++ List.map nv ys := ⟨_, rfl⟩
        have hcl : m + 5 ≤ cs2.length := by rw [hcs2]; simp [hyl]; omega
        rw [← hcs2]
        have a1 := hR.grow hdi (cs := cs2) (ys := []) hcl (by omega)
        have a3 : ∀ (j u n n' : Nat) (f : Nat → Nat), j ≠ i → ds[j]? = some (some (u, n)) → Holds σ (some (u, n')) f → Holds (supd (supd (killσ t σ) t (some ⟨cs2, true⟩)) tL (some ⟨((ds.map rowOf).map (killV t)).set i (.buf t 0 (m + 5) none 1), true⟩)) (some (u, n')) f := fun j u n n' f hj h hf => by
          obtain ⟨q1, _, cells, q3, _⟩ := hR.row j u n h
          have q4 : u ≠ t := fun e => by subst e; exact hj (hR.inj _ _ _ _ _ h hdi)
          exact ((hf.kill t).put (fun x e => q4 (by cases e; rfl))).put (fun x e => q1 (by cases e; rfl))
        have a4 : Holds (supd (supd (killσ t σ) t (some ⟨cs2, true⟩)) tL (some ⟨((ds.map rowOf).map (killV t)).set i (.buf t 0 (m + 5) none 1), true⟩)) (some (t, m + 5)) (f2 i m) := fun u n e => by
          cases e
          refine ⟨_, by rw [supd_ne _ _ _ _ htL, supd_same], fun k hk => ?_⟩
          obtain ⟨cells', g3, g4⟩ := hHi t m rfl
          obtain rfl : cells' = cells := by rw [q3] at g3; cases g3; rfl
          rw [hcs2]
          by_cases g5 : k < m
          · rw [List.getElem?_append_left (by simp; omega), List.getElem?_map, List.getElem?_take, if_pos g5, g4 k g5]
            unfold f1 f2
            rw [if_pos g5]; rfl
          · rw [List.getElem?_append_right (by simp; omega)]
            have e5 : ((cells'.take m).map (killV t)).length = m := by simp; omega
            rw [e5, hyk (k - m) (by omega)]
            unfold f2
            rw [if_neg g5]
        refine ⟨bs.length - (i + 1), by omega, i + 1, rfl, by omega, rfl, ds.set i (some (t, m + 5)), by rw [List.length_set, hdl], a1, fun j hj => ?_, fun j d hj hjd => ?_, ?_⟩
        · by_cases e : j = i
          · subst e
            rw [hrl]
            exact ⟨t, by rw [List.getElem?_set_self (by omega)], a4⟩
          · obtain ⟨u, q1, q2⟩ := hA j (by omega)
            exact ⟨u, by rw [List.getElem?_set_ne (Ne.symm e)]; exact q1, a3 j u _ _ _ e q1 q2⟩
        · obtain ⟨q1, q2⟩ := hB j d (by omega) hjd
          refine ⟨by rw [List.getElem?_set_ne (by omega)]; exact q1, ?_⟩
          cases d with
          | none => exact Holds.none
          | some q => obtain ⟨u, n⟩ := q; exact a3 j u n n _ (by omega) q1 q2
        · have hc' : Dom (killσ t σ) (c3 + 1) := fun u k hk => by
            obtain ⟨k', hk', _⟩ := Option.map_eq_some_iff.1 hk
            have := hc u k' hk'
            omega
          exact (hc'.put (by have := hc t _ q3; omega)).put (by have := hc tL _ hL; omega)
    · have hin2 : i = bs.length := by omega
      subst hin2
      (repeat (first | refine v_reg ?_ | refine v_last ?_ | refine vwp_seq ?_ | refine vwp_block ?_ | refine vwp_skip ?_ | refine vwp_exit ?_ | refine vwp_ret ?_ | refine v_cond ?_ | simp only [vm, ite_true, ite_false, eq_self, reduceIte, Nat.reduceEqDiff, Option.map, h0, h34, h35, h36, g] | refine And.intro (by omega) ?_))
      exact ⟨ds, hdl, hR, hA, hc⟩
  rintro ⟨ρ3, σ3, c3⟩ ⟨h0, ds, hdl, hR3, hH3, hc3⟩
  dsimp only at h0 hR3 hH3 hc3
  (repeat (first | refine v_reg ?_ | refine v_last ?_ | refine vwp_seq ?_ | refine vwp_block ?_ | refine vwp_skip ?_ | refine vwp_exit ?_ | refine vwp_ret ?_ | refine v_cond ?_ | simp only [vm, ite_true, ite_false, eq_self, reduceIte, Nat.reduceEqDiff, Option.map, h0] | refine And.intro (by omega) ?_))
  refine v_loop (fun S => True) ?_ ?_
  · refine vwp_loop (fun k S => ∃ i, k = bs.length - i ∧ i ≤ bs.length ∧ S.ρ 62 = .buf tL 0 bs.length none 1 ∧ S.ρ 63 = iv (bs.length : Int) ∧ S.ρ 64 = iv (i : Int) ∧ S.σ = σ3) bs.length ?_ ?_
    · exact ⟨0, rfl, Nat.zero_le _, rfl, rfl, rfl, rfl⟩
    rintro k ⟨ρ4, σ, c4⟩ ⟨i, hk, hin, h62, h63, h64, hσ⟩
    dsimp only at h62 h63 h64 hσ
    subst hσ
    by_cases g : (i : Int) < bs.length
    · obtain ⟨t, hdi, hHi⟩ := hH3 i (by omega)
      obtain ⟨m, hm0⟩ : ∃ m, m = rowLen (bs.getD i none) := ⟨_, rfl⟩
      rw [← hm0] at hdi hHi
      obtain ⟨M5, hM5⟩ : ∃ x, x = m + 5 := ⟨_, rfl⟩
      rw [← hM5] at hdi hHi
      have hdr := hR3.len hdi
      simp only [rowOf] at hdr
      have hL := hR3.hd
      obtain ⟨htL, hmb, _⟩ := hR3.row i t M5 hdi
      obtain ⟨cells, q3, q4⟩ := hHi t M5 rfl
      have e1 : (i : Int) + 1 = ((i + 1 : Nat) : Int) := by omega
      (repeat (first | refine v_reg ?_ | refine v_last ?_ | refine vwp_seq ?_ | refine vwp_block ?_ | refine vwp_skip ?_ | refine vwp_exit ?_ | refine vwp_ret ?_ | refine v_cond ?_ | simp only [vm, ite_true, ite_false, eq_self, reduceIte, Nat.reduceEqDiff, Option.map, h62, h63, h64, g, hL, d_cells, hdr] | refine And.intro (by omega) ?_))
      refine vwp_mono (Q := fun e S => e = .exit 8 ∧ S.ρ 62 = .buf tL 0 bs.length none 1 ∧ S.ρ 63 = iv (bs.length : Int) ∧ S.ρ 64 = iv (i : Int) ∧ S.σ = σ) ?_ ?_
      · refine vwp_loop (fun k2 S => ∃ q, k2 = M5 - q ∧ q ≤ M5 ∧ S.ρ 62 = .buf tL 0 bs.length none 1 ∧ S.ρ 63 = iv (bs.length : Int) ∧ S.ρ 64 = iv (i : Int) ∧ S.ρ 9 = iv (i : Int) ∧ S.ρ 10 = .buf t 0 M5 none 1 ∧ S.ρ 69 = .buf t 0 M5 none 1 ∧ S.ρ 70 = iv (M5 : Int) ∧ S.ρ 71 = iv (q : Int) ∧ S.σ = σ) M5 ?_ ?_
        · refine ⟨0, rfl, Nat.zero_le _, ?_⟩
          simp only [vm, ite_true, ite_false, eq_self, reduceIte, Nat.reduceEqDiff, Option.map, h62, h63, h64]
          (repeat' apply And.intro) <;> first | rfl | omega | assumption | exact True.intro
        rintro k2 ⟨ρ5, σ5, c5⟩ ⟨q, hk2, hq, h62, h63, h64, h9, h10, h69, h70, h71, hσ⟩
        dsimp only at h62 h63 h64 h9 h10 h69 h70 h71 hσ
        subst hσ
        have e3 : (q : Int) + 1 = ((q + 1 : Nat) : Int) := by omega
        by_cases g2 : (q : Int) < M5
        · have hv := q4 q (by omega)
          unfold f2 at hv
          by_cases g3 : (q : Int) < (M5 : Int) - 5
          · have g4 : ¬ ((M5 : Int) - 5 ≤ q) := by omega
            rw [if_pos (by omega)] at hv
            have e2 : ((i : Int) % 251 + 1).toNat = i % 251 + 1 := by omega
            (repeat (first | refine v_reg ?_ | refine v_last ?_ | refine vwp_seq ?_ | refine vwp_block ?_ | refine vwp_skip ?_ | refine vwp_exit ?_ | refine vwp_ret ?_ | refine v_cond ?_ | simp only [vm, ite_true, ite_false, eq_self, reduceIte, Nat.reduceEqDiff, Option.map, h62, h63, h64, h9, h10, h69, h70, h71, g2, g3, g4, e2, q3, d_cells, hv, e3] | refine And.intro (by omega) ?_))
            exact ⟨M5 - (q + 1), by omega, q + 1, rfl, by omega, rfl⟩
          · have g4 : (M5 : Int) - 5 ≤ q := by omega
            rw [if_neg (by omega)] at hv
            have e2 : (300 + 5 * (i : Int) + q - M5 + 5).toNat = 300 + 5 * i + (q - m) := by omega
            (repeat (first | refine v_reg ?_ | refine v_last ?_ | refine vwp_seq ?_ | refine vwp_block ?_ | refine vwp_skip ?_ | refine vwp_exit ?_ | refine vwp_ret ?_ | refine v_cond ?_ | simp only [vm, ite_true, ite_false, eq_self, reduceIte, Nat.reduceEqDiff, Option.map, h62, h63, h64, h9, h10, h69, h70, h71, g2, g3, g4, e2, q3, d_cells, hv, e3] | refine And.intro (by omega) ?_))
            exact ⟨M5 - (q + 1), by omega, q + 1, rfl, by omega, rfl⟩
        · (repeat (first | refine v_reg ?_ | refine v_last ?_ | refine vwp_seq ?_ | refine vwp_block ?_ | refine vwp_skip ?_ | refine vwp_exit ?_ | refine vwp_ret ?_ | refine v_cond ?_ | simp only [vm, ite_true, ite_false, eq_self, reduceIte, Nat.reduceEqDiff, Option.map, h62, h63, h64, h9, h10, h69, h70, h71, g2] | refine And.intro (by omega) ?_))
      · rintro _ ⟨ρ5, σ5, c5⟩ ⟨rfl, h62, h63, h64, hσ⟩
        dsimp only at h62 h63 h64 hσ
        subst hσ
        (repeat (first | refine v_reg ?_ | refine v_last ?_ | refine vwp_seq ?_ | refine vwp_block ?_ | refine vwp_skip ?_ | refine vwp_exit ?_ | refine vwp_ret ?_ | refine v_cond ?_ | simp only [vm, ite_true, ite_false, eq_self, reduceIte, Nat.reduceEqDiff, Option.map, h62, h63, h64, e1] | refine And.intro (by omega) ?_))
        refine ⟨bs.length - (i + 1), by omega, i + 1, ?_⟩
        (repeat' apply And.intro) <;> first | rfl | omega | assumption | exact True.intro
    · (repeat (first | refine v_reg ?_ | refine v_last ?_ | refine vwp_seq ?_ | refine vwp_block ?_ | refine vwp_skip ?_ | refine vwp_exit ?_ | refine vwp_ret ?_ | refine v_cond ?_ | simp only [vm, ite_true, ite_false, eq_self, reduceIte, Nat.reduceEqDiff, Option.map, h62, h63, h64, g] | refine And.intro (by omega) ?_))
  rintro ⟨ρ4, σ4, c4⟩ _
  (repeat (first | refine v_reg ?_ | refine v_last ?_ | refine vwp_seq ?_ | refine vwp_block ?_ | refine vwp_skip ?_ | refine vwp_exit ?_ | refine vwp_ret ?_ | refine v_cond ?_ | simp only [vm, ite_true, ite_false, eq_self, reduceIte, Nat.reduceEqDiff, Option.map] | refine And.intro (by omega) ?_))
end Go.Proofs.Ytladcfeibpddeab
set_option linter.unusedSimpArgs false
set_option linter.unusedVariables false
set_option maxRecDepth 100000
set_option maxHeartbeats 8000000
namespace Go.Proofs.Ytladcfeibpddeab
open Go.VM
theorem mul_lt32 {x y : Nat} (hx : x < 4294967296) (hy : y < 4294967296) : x * y ≤ 4294967295 * 4294967295 := Nat.mul_le_mul (by omega) (by omega)

theorem at_spec (t : Tok) (l : List Nat) (i c : Nat) (hn : l.length ≤ 4398046511104) : VSpec Try.prog F.surdref01_Num_at c [nats t l, iv i] (fun r c' => r = nv (l.getD i 0)) := by
  refine spec_mk hm E.surdref01_Num_at B.surdref01_Num_at K.surdref01_Num_at Q.surdref01_Num_at (by rw [N.surdref01_Num_at]; simp) ?_
  unfold C.surdref01_Num_at R.surdref01_Num_at
  by_cases g : (i : Int) < l.length
  · (repeat (first | refine v_reg ?_ | refine v_last ?_ | refine vwp_seq ?_ | refine vwp_block ?_ | refine vwp_skip ?_ | refine vwp_exit ?_ | refine vwp_ret ?_ | refine v_cond ?_ | simp only [vm, ite_true, ite_false, eq_self, reduceIte, Nat.reduceEqDiff, Option.map, g] | refine And.intro (by omega) ?_))
    exact Nat.le_refl _
  · (repeat (first | refine v_reg ?_ | refine v_last ?_ | refine vwp_seq ?_ | refine vwp_block ?_ | refine vwp_skip ?_ | refine vwp_exit ?_ | refine vwp_ret ?_ | refine v_cond ?_ | simp only [vm, ite_true, ite_false, eq_self, reduceIte, Nat.reduceEqDiff, Option.map, g] | refine And.intro (by omega) ?_))
    rw [getD_ge (by omega)]

theorem add32_spec (t u : Tok) (a b : List Nat) (c : Nat) (ha : Lim 4294967296 a) (hb : Lim 4294967296 b) (hna : a.length ≤ 1099511627776) (hnb : b.length ≤ 1099511627776) :
    VSpec Try.prog F.surdref01_Add c [nats t a, nats u b] (fun r c' => ∃ i, r = nats (.id i) (digs 4294967296 (val 4294967296 a + val 4294967296 b)) ∧ c ≤ i ∧ i < c') := by
  refine spec_mk hm E.surdref01_Add B.surdref01_Add K.surdref01_Add Q.surdref01_Add (by rw [N.surdref01_Add]; simp) ?_
  unfold C.surdref01_Add R.surdref01_Add
  (repeat (first | refine v_reg ?_ | refine v_last ?_ | refine vwp_seq ?_ | refine vwp_block ?_ | refine vwp_skip ?_ | refine vwp_exit ?_ | refine vwp_ret ?_ | refine v_cond ?_)); simp only [vm, ite_true, ite_false, eq_self, reduceIte, Nat.reduceEqDiff, Option.map]
  (repeat (first | refine v_reg ?_ | refine v_last ?_ | refine vwp_seq ?_ | refine vwp_block ?_ | refine vwp_skip ?_ | refine vwp_exit ?_ | refine vwp_ret ?_ | refine v_cond ?_)); simp only [vm, ite_true, ite_false, eq_self, reduceIte, Nat.reduceEqDiff, Option.map]
  refine v_cut (fun S => ∃ n, a.length ≤ n ∧ b.length ≤ n ∧ n ≤ 1099511627776 ∧ S.ρ 0 = nats t a ∧ S.ρ 1 = nats u b ∧ S.ρ 5 = iv (n : Int) ∧ S.σ = noBlk ∧ S.c = c) ?_ ?_
  · by_cases g : (a.length : Int) < b.length
    · (repeat (first | refine v_reg ?_ | refine v_last ?_ | refine vwp_seq ?_ | refine vwp_block ?_ | refine vwp_skip ?_ | refine vwp_exit ?_ | refine vwp_ret ?_ | refine v_cond ?_ | simp only [vm, ite_true, ite_false, eq_self, reduceIte, Nat.reduceEqDiff, Option.map, g] | refine And.intro (by omega) ?_))
      exact ⟨b.length, by omega, by omega, by omega, rfl⟩
    · (repeat (first | refine v_reg ?_ | refine v_last ?_ | refine vwp_seq ?_ | refine vwp_block ?_ | refine vwp_skip ?_ | refine vwp_exit ?_ | refine vwp_ret ?_ | refine v_cond ?_ | simp only [vm, ite_true, ite_false, eq_self, reduceIte, Nat.reduceEqDiff, Option.map, g] | refine And.intro (by omega) ?_))
      exact ⟨a.length, by omega, by omega, by omega, rfl⟩
  rintro ⟨ρ1, σ, c1⟩ ⟨n, hn1, hn2, hn3, h0, h1, h5, hσ, hc1⟩
  dsimp only at h0 h1 h5 hσ hc1
  subst hσ hc1
  (repeat (first | refine v_reg ?_ | refine v_last ?_ | refine vwp_seq ?_ | refine vwp_block ?_ | refine vwp_skip ?_ | refine vwp_exit ?_ | refine vwp_ret ?_ | refine v_cond ?_ | simp only [vm, ite_true, ite_false, eq_self, reduceIte, Nat.reduceEqDiff, Option.map, h5] | refine And.intro (by omega) ?_))
  refine s_mk (n := n + 1) (m := n + 1) (by simp only [vm, ite_true, ite_false, eq_self, reduceIte, Nat.reduceEqDiff, Option.map, h5]; rfl) (by simp only [vm, ite_true, ite_false, eq_self, reduceIte, Nat.reduceEqDiff, Option.map, h5]; rfl) (Nat.le_refl _) (by omega) ?_
  (repeat (first | refine v_reg ?_ | refine v_last ?_ | refine vwp_seq ?_ | refine vwp_block ?_ | refine vwp_skip ?_ | refine vwp_exit ?_ | refine vwp_ret ?_ | refine v_cond ?_ | simp only [vm, ite_true, ite_false, eq_self, reduceIte, Nat.reduceEqDiff, Option.map, h5] | refine And.intro (by omega) ?_))
  have htot : val 4294967296 a + val 4294967296 b < 4294967296 ^ (n + 1) := by
    have h1 : val 4294967296 a < 4294967296 ^ n := Nat.lt_of_lt_of_le (val_lt ha) (Nat.pow_le_pow_right (by decide) hn1)
    have h2 : val 4294967296 b < 4294967296 ^ n := Nat.lt_of_lt_of_le (val_lt hb) (Nat.pow_le_pow_right (by decide) hn2)
    rw [Nat.pow_succ]
    generalize 4294967296 ^ n = P at *
    omega
  refine v_loop (fun S => ∃ w, w.length = n + 1 ∧ Lim 4294967296 w ∧ val 4294967296 w = val 4294967296 a + val 4294967296 b ∧ S.ρ 6 = .buf c1 0 (n + 1) (some (n + 1)) 1 ∧ S.σ = supd noBlk c1 (nblk w) ∧ c1 + 1 ≤ S.c) ?_ ?_
  · refine vwp_loop (fun k S => ∃ i w carry, k = n + 1 - i ∧ i ≤ n + 1 ∧ w.length = i ∧ Lim 4294967296 w ∧ carry ≤ 1 ∧ val 4294967296 w + 4294967296 ^ i * carry = val 4294967296 (a.take i) + val 4294967296 (b.take i) ∧ S.ρ 0 = nats t a ∧ S.ρ 1 = nats u b ∧ S.ρ 5 = iv (n : Int) ∧ S.ρ 7 = nv carry ∧ S.ρ 8 = iv (i : Int) ∧ S.ρ 6 = .buf c1 0 (n + 1) (some (n + 1)) 1 ∧ S.σ = supd noBlk c1 (nblk (w ++ List.replicate (n + 1 - i) 0)) ∧ c1 + 1 ≤ S.c) (n + 1) ?_ ?_
    · refine ⟨0, [], 0, by omega, by omega, ?_⟩
      simp only [vm, ite_true, ite_false, eq_self, reduceIte, Nat.reduceEqDiff, Option.map, h0, h1, h5]
      (repeat' apply And.intro) <;> first | rfl | omega | assumption | exact Lim.nil | (simp [val]; done)
    rintro k ⟨ρ2, σ, c4⟩ ⟨i, w, carry, hk, hi, hw, hlw, hca, hinv, h0, h1, h5, h7, h8, h6, hσ, hc4⟩
    dsimp only at h0 h1 h5 h7 h8 h6 hσ hc4
    subst hσ
    by_cases g : (i : Int) ≤ n
    · have hxi := ha.getD (i := i) (by decide)
      have hyi := hb.getD (i := i) (by decide)
      have hax := val_take' 4294967296 a i
      have hbx := val_take' 4294967296 b i
      have hlen : (w ++ List.replicate (n + 1 - i) 0).length = n + 1 := by simp; omega
      have hset : ∀ v, (w ++ List.replicate (n + 1 - i) 0).set i v = (w ++ [v]) ++ List.replicate (n + 1 - (i + 1)) 0 := fun v => by
        have := set_fill w (n + 1 - (i + 1)) v
        rw [hw] at this
        rw [show n + 1 - i = n + 1 - (i + 1) + 1 by omega, this]
      (repeat (first | refine v_reg ?_ | refine v_last ?_ | refine vwp_seq ?_ | refine vwp_block ?_ | refine vwp_skip ?_ | refine vwp_exit ?_ | refine vwp_ret ?_ | refine v_cond ?_ | simp only [vm, ite_true, ite_false, eq_self, reduceIte, Nat.reduceEqDiff, Option.map, h0, h1, h5, h7, h8, h6, g] | refine And.intro (by omega) ?_))
      refine s_call (at_spec t a i c4 (by omega)) (by simp only [vm, ite_true, ite_false, eq_self, reduceIte, Nat.reduceEqDiff, Option.map, List.map, h0, h8]) ?_
      rintro v c5 hc5 rfl
      (repeat (first | refine v_reg ?_ | refine v_last ?_ | refine vwp_seq ?_ | refine vwp_block ?_ | refine vwp_skip ?_ | refine vwp_exit ?_ | refine vwp_ret ?_ | refine v_cond ?_ | simp only [vm, ite_true, ite_false, eq_self, reduceIte, Nat.reduceEqDiff, Option.map, h0, h1, h5, h7, h8, h6, g] | refine And.intro (by omega) ?_))
      refine s_call (at_spec u b i c5 (by omega)) (by simp only [vm, ite_true, ite_false, eq_self, reduceIte, Nat.reduceEqDiff, Option.map, List.map, h1, h8]) ?_
      rintro v c6 hc6 rfl
      generalize a.getD i 0 = x at *
      generalize b.getD i 0 = y at *
      have e1 : (x + y) % 18446744073709551616 = x + y := Nat.mod_eq_of_lt (by omega)
      have e2 : (x + y + carry) % 18446744073709551616 = x + y + carry := Nat.mod_eq_of_lt (by omega)
      have e3 : (x + y + carry) / 4294967296 % 18446744073709551616 = (x + y + carry) / 4294967296 := Nat.mod_eq_of_lt (by omega)
      have hd := Nat.mod_add_div (x + y + carry) 4294967296
      have hml := Nat.mod_lt (x + y + carry) (show 0 < 4294967296 by decide)
      have hdl : (x + y + carry) / 4294967296 ≤ 1 := by omega
      (repeat (first | refine v_reg ?_ | refine v_last ?_ | refine vwp_seq ?_ | refine vwp_block ?_ | refine vwp_skip ?_ | refine vwp_exit ?_ | refine vwp_ret ?_ | refine v_cond ?_ | simp only [vm, ite_true, ite_false, eq_self, reduceIte, Nat.reduceEqDiff, Option.map, h0, h1, h5, h7, h8, h6, e1, e2, e3, hlen, hset] | refine And.intro (by omega) ?_))
      generalize (x + y + carry) % 4294967296 = d at *
      generalize (x + y + carry) / 4294967296 = cc at *
      have key := addb_step (b := 4294967296) (x := y) (y := x) (c' := cc) (d := d) hw hinv (by omega)
      rw [← hax, ← hbx] at key
      refine ⟨n + 1 - (i + 1), by omega, i + 1, w ++ [d], cc, ?_⟩
      (repeat' apply And.intro) <;> first | rfl | exact key | exact lim_snoc hlw hml | (simp [hw]; done) | omega | assumption
    · have hi' : i = n + 1 := by omega
      subst hi'
      (repeat (first | refine v_reg ?_ | refine v_last ?_ | refine vwp_seq ?_ | refine vwp_block ?_ | refine vwp_skip ?_ | refine vwp_exit ?_ | refine vwp_ret ?_ | refine v_cond ?_ | simp only [vm, ite_true, ite_false, eq_self, reduceIte, Nat.reduceEqDiff, Option.map, h0, h1, h5, h7, h8, h6, g] | refine And.intro (by omega) ?_))
      rw [List.take_of_length_le (l := a) (by omega), List.take_of_length_le (l := b) (by omega)] at hinv
      refine ⟨w, ?_⟩
      have e0 : w ++ List.replicate (n + 1 - (n + 1)) 0 = w := by simp
      rw [e0]
      have hc0 : carry = 0 := by
        rcases Nat.eq_zero_or_pos carry with h | h
        · exact h
        · have : carry = 1 := by omega
          rw [this, Nat.mul_one] at hinv
          omega
      rw [hc0, Nat.mul_zero, Nat.add_zero] at hinv
      (repeat' apply And.intro) <;> first | rfl | omega | assumption
  rintro ⟨ρ3, σ, c5⟩ ⟨w, hw, hlw, hvw, h6, hσ, hc5⟩
  dsimp only at h6 hσ hc5
  subst hσ
  refine v_freeze 6 (t := c1) (off := 0) (n := n + 1) (cap := some (n + 1)) (l := w) (by simp only [vm, ite_true, ite_false, eq_self, reduceIte, Nat.reduceEqDiff, Option.map, h6]) (by simp only [vm, ite_true, ite_false, eq_self, reduceIte, Nat.reduceEqDiff, Option.map]) (by omega) (by omega) ?_
  rw [List.drop_zero, show w.take (n + 1) = w from List.take_of_length_le (by omega)]
  (repeat (first | refine v_reg ?_ | refine v_last ?_ | refine vwp_seq ?_ | refine vwp_block ?_ | refine vwp_skip ?_ | refine vwp_exit ?_ | refine vwp_ret ?_ | refine v_cond ?_ | simp only [vm, ite_true, ite_false, eq_self, reduceIte, Nat.reduceEqDiff, Option.map] | refine And.intro (by omega) ?_))
  refine s_call (norm32_spec (.id c1) w c5 hlw (by omega)) (by simp only [vm, ite_true, ite_false, eq_self, reduceIte, Nat.reduceEqDiff, Option.map, List.map]) ?_
  rintro v c6 hc6 rfl
  rw [hvw]
  (repeat (first | refine v_reg ?_ | refine v_last ?_ | refine vwp_seq ?_ | refine vwp_block ?_ | refine vwp_skip ?_ | refine vwp_exit ?_ | refine vwp_ret ?_ | refine v_cond ?_ | simp only [vm, ite_true, ite_false, eq_self, reduceIte, Nat.reduceEqDiff, Option.map] | refine And.intro (by omega) ?_))
  exact ⟨c1, rfl, by omega, by omega⟩

theorem mul32_spec (t u : Tok) (a b : List Nat) (c : Nat) (ha : Lim 4294967296 a) (hb : Lim 4294967296 b) (hna : a.length ≤ 1099511627776) (hnb : b.length ≤ 1099511627776) :
    VSpec Try.prog F.surdref01_Mul c [nats t a, nats u b] (fun r c' => ∃ i, r = nats (.id i) (digs 4294967296 (val 4294967296 a * val 4294967296 b)) ∧ c ≤ i ∧ i < c') := by
  refine spec_mk hm E.surdref01_Mul B.surdref01_Mul K.surdref01_Mul Q.surdref01_Mul (by rw [N.surdref01_Mul]; simp) ?_
  unfold C.surdref01_Mul R.surdref01_Mul
  (repeat (first | refine v_reg ?_ | refine v_last ?_ | refine vwp_seq ?_ | refine vwp_block ?_ | refine vwp_skip ?_ | refine vwp_exit ?_ | refine vwp_ret ?_ | refine v_cond ?_ | simp only [vm, ite_true, ite_false, eq_self, reduceIte, Nat.reduceEqDiff, Option.map] | refine And.intro (by omega) ?_))
  refine s_mk (n := a.length + b.length + 1) (m := a.length + b.length + 1) (by simp only [vm, ite_true, ite_false, eq_self, reduceIte, Nat.reduceEqDiff, Option.map]; rfl) (by simp only [vm, ite_true, ite_false, eq_self, reduceIte, Nat.reduceEqDiff, Option.map]; rfl) (Nat.le_refl _) (by omega) ?_
  (repeat (first | refine v_reg ?_ | refine v_last ?_ | refine vwp_seq ?_ | refine vwp_block ?_ | refine vwp_skip ?_ | refine vwp_exit ?_ | refine vwp_ret ?_ | refine v_cond ?_ | simp only [vm, ite_true, ite_false, eq_self, reduceIte, Nat.reduceEqDiff, Option.map] | refine And.intro (by omega) ?_))
  refine v_loop (fun S => ∃ w, w.length = a.length + b.length + 1 ∧ Lim 4294967296 w ∧ val 4294967296 w = val 4294967296 a * val 4294967296 b ∧ S.ρ 5 = .buf c 0 (a.length + b.length + 1) (some (a.length + b.length + 1)) 1 ∧ S.σ = supd noBlk c (nblk w) ∧ c + 1 ≤ S.c) ?_ ?_
  · refine vwp_loop (fun m S => ∃ i w, m = a.length - i ∧ i ≤ a.length ∧ w.length = i + b.length ∧ Lim 4294967296 w ∧ val 4294967296 w = val 4294967296 (a.take i) * val 4294967296 b ∧ S.ρ 1 = nats u b ∧ S.ρ 5 = .buf c 0 (a.length + b.length + 1) (some (a.length + b.length + 1)) 1 ∧ S.ρ 19 = nats t a ∧ S.ρ 20 = iv a.length ∧ S.ρ 21 = iv i ∧ S.σ = supd noBlk c (nblk (w ++ List.replicate (a.length + 1 - i) 0)) ∧ c + 1 ≤ S.c) a.length ?_ ?_
    · refine ⟨0, List.replicate b.length 0, by omega, by omega, ?_⟩
      simp only [vm, ite_true, ite_false, eq_self, reduceIte, Nat.reduceEqDiff, Option.map]
      have e0 : List.replicate b.length 0 ++ List.replicate (a.length + 1 - 0) 0 = List.replicate (a.length + b.length + 1) 0 := by
        rw [List.replicate_append_replicate]; congr 1; omega
      (repeat' apply And.intro) <;> first | rfl | omega | assumption | (simp; done) | exact Lim.replicate (by decide) | (rw [val_replicate]; simp [val]; done) | (rw [e0])
    rintro m ⟨ρ2, σ, c4⟩ ⟨i, w, hm', hi, hw, hlw, hinv, h1, h5, h20, h21, h22, hσ, hc4⟩
    dsimp only at h1 h5 h20 h21 h22 hσ hc4
    subst hσ
    by_cases g : (i : Int) < a.length
    · have hi' : i < a.length := by omega
      have hxi := ha.getD (i := i) (by decide)
      have hx' := val_take' 4294967296 a i
      (repeat (first | refine v_reg ?_ | refine v_last ?_ | refine vwp_seq ?_ | refine vwp_block ?_ | refine vwp_skip ?_ | refine vwp_exit ?_ | refine vwp_ret ?_ | refine v_cond ?_ | simp only [vm, ite_true, ite_false, eq_self, reduceIte, Nat.reduceEqDiff, Option.map, h1, h5, h20, h21, h22, g] | refine And.intro (by omega) ?_))
      generalize a.getD i 0 = x at *
      refine v_loop (fun S => ∃ w' carry, w'.length = i + b.length ∧ Lim 4294967296 w' ∧ carry < 4294967296 ∧ val 4294967296 w' + 4294967296 ^ (i + b.length) * carry = val 4294967296 w + 4294967296 ^ i * (x * val 4294967296 b) ∧ S.ρ 1 = nats u b ∧ S.ρ 5 = .buf c 0 (a.length + b.length + 1) (some (a.length + b.length + 1)) 1 ∧ S.ρ 6 = iv i ∧ S.ρ 8 = nv carry ∧ S.ρ 19 = nats t a ∧ S.ρ 20 = iv a.length ∧ S.ρ 21 = iv i ∧ S.σ = supd noBlk c (nblk (w' ++ List.replicate (a.length + 1 - i) 0)) ∧ c + 1 ≤ S.c) ?_ ?_
      · refine vwp_loop (fun m S => ∃ k w' carry, m = b.length - k ∧ k ≤ b.length ∧ w'.length = i + b.length ∧ Lim 4294967296 w' ∧ carry < 4294967296 ∧ val 4294967296 w' + 4294967296 ^ (i + k) * carry = val 4294967296 w + 4294967296 ^ i * (x * val 4294967296 (b.take k)) ∧ S.ρ 1 = nats u b ∧ S.ρ 5 = .buf c 0 (a.length + b.length + 1) (some (a.length + b.length + 1)) 1 ∧ S.ρ 6 = iv i ∧ S.ρ 7 = nv x ∧ S.ρ 8 = nv carry ∧ S.ρ 19 = nats t a ∧ S.ρ 20 = iv a.length ∧ S.ρ 21 = iv i ∧ S.ρ 26 = nats u b ∧ S.ρ 27 = iv b.length ∧ S.ρ 28 = iv k ∧ S.σ = supd noBlk c (nblk (w' ++ List.replicate (a.length + 1 - i) 0)) ∧ c + 1 ≤ S.c) b.length ?_ ?_
        · refine ⟨0, w, 0, by omega, by omega, ?_⟩
          simp only [vm, ite_true, ite_false, eq_self, reduceIte, Nat.reduceEqDiff, Option.map, h1, h5, h20, h21, h22]
          (repeat' apply And.intro) <;> first | rfl | omega | assumption | (simp [val]; done)
        rintro m ⟨ρ3, σ, c5⟩ ⟨k, w', carry, hm2, hk, hw', hlw', hca, hinv', q1, q5, q6, q7, q8, q20, q21, q22, q27, q28, q29, hσ, hc5⟩
        dsimp only at q1 q5 q6 q7 q8 q20 q21 q22 q27 q28 q29 hσ hc5
        subst hσ
        by_cases g2 : (k : Int) < b.length
        · have hk' : k < b.length := by omega
          have hyk := hb.getD (i := k) (by decide)
          have hy' := val_take' 4294967296 b k
          have hik : i + k < w'.length := by omega
          have hwk := hlw'.getD (i := i + k) (by decide)
          have key := addAt_step (b := 4294967296) (k := i) (Y := x * val 4294967296 (b.take k)) (y := x * b.getD k 0) (c := carry) hik (by omega) hinv' _ rfl
          rw [show i + k - i = k by omega, Nat.mul_left_comm, ← Nat.mul_add, ← hy'] at key
          have hp32 := mul_lt32 hxi hyk
          have hvlt : x * b.getD k 0 + w'.getD (i + k) 0 + carry < 18446744073709551616 := by omega
          have s0 : x * b.getD k 0 % 18446744073709551616 = x * b.getD k 0 := Nat.mod_eq_of_lt (by omega)
          have s1 : (x * b.getD k 0 + w'.getD (i + k) 0) % 18446744073709551616 = x * b.getD k 0 + w'.getD (i + k) 0 := Nat.mod_eq_of_lt (by omega)
          have s2 : (x * b.getD k 0 + w'.getD (i + k) 0 + carry) % 18446744073709551616 = x * b.getD k 0 + w'.getD (i + k) 0 + carry := Nat.mod_eq_of_lt hvlt
          have s3 : (x * b.getD k 0 + w'.getD (i + k) 0 + carry) / 4294967296 < 4294967296 := by omega
          have s4 : (x * b.getD k 0 + w'.getD (i + k) 0 + carry) / 4294967296 % 18446744073709551616 = (x * b.getD k 0 + w'.getD (i + k) 0 + carry) / 4294967296 := Nat.mod_eq_of_lt (by omega)
          have s5 : w'.getD (i + k) 0 + x * b.getD k 0 + carry = x * b.getD k 0 + w'.getD (i + k) 0 + carry := by omega
          rw [s5] at key
          have eik : ((i : Int) + (k : Int)).toNat = i + k := by omega
          have hget : (w' ++ List.replicate (a.length + 1 - i) 0).getD (i + k) 0 = w'.getD (i + k) 0 := getD_append_left hik
          have hset : ∀ v, (w' ++ List.replicate (a.length + 1 - i) 0).set (i + k) v = w'.set (i + k) v ++ List.replicate (a.length + 1 - i) 0 := fun v => List.set_append_left _ _ hik
          have hlen : (w' ++ List.replicate (a.length + 1 - i) 0).length = a.length + b.length + 1 := by simp; omega
          (repeat (first | refine v_reg ?_ | refine v_last ?_ | refine vwp_seq ?_ | refine vwp_block ?_ | refine vwp_skip ?_ | refine vwp_exit ?_ | refine vwp_ret ?_ | refine v_cond ?_ | simp only [vm, ite_true, ite_false, eq_self, reduceIte, Nat.reduceEqDiff, Option.map, q1, q5, q6, q7, q8, q20, q21, q22, q27, q28, q29, g2, eik, hget, hset, hlen, s0, s1, s2, s4] | refine And.intro (by omega) ?_))
          refine ⟨b.length - (k + 1), by omega, k + 1, w'.set (i + k) ((x * b.getD k 0 + w'.getD (i + k) 0 + carry) % 4294967296), (x * b.getD k 0 + w'.getD (i + k) 0 + carry) / 4294967296, ?_⟩
          (repeat' apply And.intro) <;> first | rfl | omega | assumption | (rw [List.length_set]; exact hw') | exact hlw'.set (Nat.mod_lt _ (by decide)) | exact key
        · have hk' : k = b.length := by omega
          subst hk'
          (repeat (first | refine v_reg ?_ | refine v_last ?_ | refine vwp_seq ?_ | refine vwp_block ?_ | refine vwp_skip ?_ | refine vwp_exit ?_ | refine vwp_ret ?_ | refine v_cond ?_ | simp only [vm, ite_true, ite_false, eq_self, reduceIte, Nat.reduceEqDiff, Option.map, q1, q5, q6, q7, q8, q20, q21, q22, q27, q28, q29, g2] | refine And.intro (by omega) ?_))
          rw [List.take_length] at hinv'
          refine ⟨w', carry, hw', hlw', hca, hinv', ?_⟩
          (repeat' apply And.intro) <;> first | rfl | omega | assumption
      rintro ⟨ρ3, σ, c5⟩ ⟨w', carry, hw', hlw', hca, hinv', q1, q5, q6, q8, q20, q21, q22, hσ, hc5⟩
      dsimp only at q1 q5 q6 q8 q20 q21 q22 hσ hc5
      subst hσ
      have eib : ((i : Int) + (b.length : Int)).toNat = i + b.length := by omega
      have hlen : (w' ++ List.replicate (a.length + 1 - i) 0).length = a.length + b.length + 1 := by simp; omega
      have hset : ∀ v, (w' ++ List.replicate (a.length + 1 - i) 0).set (i + b.length) v = (w' ++ [v]) ++ List.replicate (a.length + 1 - (i + 1)) 0 := fun v => by
        have := set_fill w' (a.length + 1 - (i + 1)) v
        rw [hw'] at this
        rw [show a.length + 1 - i = a.length + 1 - (i + 1) + 1 by omega, this]
      (repeat (first | refine v_reg ?_ | refine v_last ?_ | refine vwp_seq ?_ | refine vwp_block ?_ | refine vwp_skip ?_ | refine vwp_exit ?_ | refine vwp_ret ?_ | refine v_cond ?_ | simp only [vm, ite_true, ite_false, eq_self, reduceIte, Nat.reduceEqDiff, Option.map, q1, q5, q6, q8, q20, q21, q22, eib, hlen, hset] | refine And.intro (by omega) ?_))
      refine ⟨a.length - (i + 1), by omega, i + 1, w' ++ [carry], ?_⟩
      have hvv : val 4294967296 (w' ++ [carry]) = val 4294967296 (a.take (i + 1)) * val 4294967296 b := by
        rw [val_append, hw']
        simp only [val, Nat.mul_zero, Nat.add_zero]
        rw [hinv', hinv, hx', Nat.add_mul, Nat.mul_assoc]
      (repeat' apply And.intro) <;> first | rfl | omega | assumption | (simp; omega) | exact lim_snoc hlw' hca | exact hvv
    · have hi' : i = a.length := by omega
      subst hi'
      (repeat (first | refine v_reg ?_ | refine v_last ?_ | refine vwp_seq ?_ | refine vwp_block ?_ | refine vwp_skip ?_ | refine vwp_exit ?_ | refine vwp_ret ?_ | refine v_cond ?_ | simp only [vm, ite_true, ite_false, eq_self, reduceIte, Nat.reduceEqDiff, Option.map, h1, h5, h20, h21, h22, g] | refine And.intro (by omega) ?_))
      rw [List.take_length] at hinv
      refine ⟨w ++ [0], ?_⟩
      have e0 : w ++ List.replicate (a.length + 1 - a.length) 0 = w ++ [0] := by rw [show a.length + 1 - a.length = 0 + 1 by omega]; rfl
      rw [e0]
      (repeat' apply And.intro) <;> first | rfl | omega | assumption | (simp; omega) | exact lim_snoc hlw (by decide) | (rw [val_snoc0]; exact hinv)
  rintro ⟨ρ3, σ, c5⟩ ⟨w, hw, hlw, hvw, h5, hσ, hc5⟩
  dsimp only at h5 hσ hc5
  subst hσ
  refine v_freeze 5 (t := c) (off := 0) (n := a.length + b.length + 1) (cap := some (a.length + b.length + 1)) (l := w) (by simp only [vm, ite_true, ite_false, eq_self, reduceIte, Nat.reduceEqDiff, Option.map, h5]) (by simp only [vm, ite_true, ite_false, eq_self, reduceIte, Nat.reduceEqDiff, Option.map]) (by omega) (by omega) ?_
  rw [List.drop_zero, show w.take (a.length + b.length + 1) = w from List.take_of_length_le (by omega)]
  (repeat (first | refine v_reg ?_ | refine v_last ?_ | refine vwp_seq ?_ | refine vwp_block ?_ | refine vwp_skip ?_ | refine vwp_exit ?_ | refine vwp_ret ?_ | refine v_cond ?_ | simp only [vm, ite_true, ite_false, eq_self, reduceIte, Nat.reduceEqDiff, Option.map] | refine And.intro (by omega) ?_))
  refine s_call (norm32_spec (.id c) w c5 hlw (by omega)) (by simp only [vm, ite_true, ite_false, eq_self, reduceIte, Nat.reduceEqDiff, Option.map, List.map]) ?_
  rintro v c6 hc6 rfl
  rw [hvw]
  (repeat (first | refine v_reg ?_ | refine v_last ?_ | refine vwp_seq ?_ | refine vwp_block ?_ | refine vwp_skip ?_ | refine vwp_exit ?_ | refine vwp_ret ?_ | refine v_cond ?_ | simp only [vm, ite_true, ite_false, eq_self, reduceIte, Nat.reduceEqDiff, Option.map] | refine And.intro (by omega) ?_))
  exact ⟨c, rfl, by omega, by omega⟩

theorem len32_bl {n k : Nat} (h : bl n ≤ 32 * k) : (digs 4294967296 n).length ≤ k := by
  refine digs_len two32 ?_
  rw [pow32]
  exact lt_of_bl h
theorem bl_mul_le (m n : Nat) : bl (m * n) ≤ bl m + bl n := by
  refine bl_le ?_
  rw [Nat.pow_add]
  exact Nat.mul_lt_mul'' (lt_bl m) (lt_bl n)
theorem bl_add_le {m n k : Nat} (hm : bl m ≤ k) (hn : bl n ≤ k) : bl (m + n) ≤ k + 1 := bl_le (bl_sum (lt_of_bl hm) (lt_of_bl hn))
theorem bl_pow_le (a j : Nat) : bl (a ^ j) ≤ bl a * j + 1 := by
  refine bl_le ?_
  have h : a ^ j ≤ (2 ^ bl a) ^ j := Nat.pow_le_pow_left (Nat.le_of_lt (lt_bl a)) j
  rw [← Nat.pow_mul] at h
  rw [Nat.pow_succ]
  have := Nat.two_pow_pos (bl a * j)
  omega

/-- a number of the reference, in memory of its own -/
def RefR (c c' n : Nat) (r : V) : Prop := ∃ i, r = nats (.id i) (digs 4294967296 n) ∧ c ≤ i ∧ i < c'
theorem addR (t u : Tok) (m n c : Nat) (hm : bl m ≤ 68719476736) (hn : bl n ≤ 68719476736) : VSpec Try.prog F.surdref01_Add c [nats t (digs 4294967296 m), nats u (digs 4294967296 n)] (fun r c' => RefR c c' (m + n) r) := by
  have h := add32_spec t u (digs 4294967296 m) (digs 4294967296 n) c (lim_digs two32 m) (lim_digs two32 n) (Nat.le_trans (len32_bl (k := 2147483648) (by omega)) (by decide)) (Nat.le_trans (len32_bl (k := 2147483648) (by omega)) (by decide))
  rw [val_digs two32, val_digs two32] at h
  exact h
theorem mulR (t u : Tok) (m n c : Nat) (hm : bl m ≤ 68719476736) (hn : bl n ≤ 68719476736) : VSpec Try.prog F.surdref01_Mul c [nats t (digs 4294967296 m), nats u (digs 4294967296 n)] (fun r c' => RefR c c' (m * n) r) := by
  have h := mul32_spec t u (digs 4294967296 m) (digs 4294967296 n) c (lim_digs two32 m) (lim_digs two32 n) (Nat.le_trans (len32_bl (k := 2147483648) (by omega)) (by decide)) (Nat.le_trans (len32_bl (k := 2147483648) (by omega)) (by decide))
  rw [val_digs two32, val_digs two32] at h
  exact h
theorem cmpR (t u : Tok) (m n c : Nat) (hm : bl m ≤ 68719476736) (hn : bl n ≤ 68719476736) : VSpec Try.prog F.surdref01_Cmp c [nats t (digs 4294967296 m), nats u (digs 4294967296 n)] (fun r _ => r = iv (cmpI m n)) :=
  cmp_spec t u m n c (Nat.le_trans (len32_bl (k := 2147483648) (by omega)) (by decide)) (Nat.le_trans (len32_bl (k := 2147483648) (by omega)) (by decide))
theorem ofR (t : Tok) (n c : Nat) (hn : bl n ≤ 68719476736) : VSpec Try.prog F.surdlaw04_of c [nats t (digs 18446744073709551616 n)] (fun r c' => RefR c c' n r) := by
  have h := ofl_spec t (digs 18446744073709551616 n) c (lim_digs two64 n) (Nat.le_trans (digs_len_bl (k := 1073741824) (by omega)) (by decide))
  rw [val_digs two64] at h
  exact h

theorem powR (t : Tok) (A0 n c : Nat) (hn : n < 9223372036854775808) (hb : ∀ j, j ≤ n → bl (A0 ^ j) ≤ 68719476736) (hA : bl A0 ≤ 68719476736) :
    VSpec Try.prog F.surdref01_Pow c [nats t (digs 4294967296 A0), iv n] (fun r c' => RefR c c' (A0 ^ n) r) := by
  refine spec_mk hm E.surdref01_Pow B.surdref01_Pow K.surdref01_Pow Q.surdref01_Pow (by rw [N.surdref01_Pow]; simp) ?_
  unfold C.surdref01_Pow R.surdref01_Pow
  (repeat (first | refine v_reg ?_ | refine v_last ?_ | refine vwp_seq ?_ | refine vwp_block ?_ | refine vwp_skip ?_ | refine vwp_exit ?_ | refine vwp_ret ?_ | refine v_cond ?_ | simp only [vm, ite_true, ite_false, eq_self, reduceIte, Nat.reduceEqDiff, Option.map] | refine And.intro (by omega) ?_))
  refine s_call (int_spec 1 c (by decide)) (by simp only [vm, ite_true, ite_false, eq_self, reduceIte, Nat.reduceEqDiff, Option.map, List.map]; rfl) ?_
  rintro v c1 hc1 ⟨i0, rfl, hi1, hi2⟩
  (repeat (first | refine v_reg ?_ | refine v_last ?_ | refine vwp_seq ?_ | refine vwp_block ?_ | refine vwp_skip ?_ | refine vwp_exit ?_ | refine vwp_ret ?_ | refine v_cond ?_ | simp only [vm, ite_true, ite_false, eq_self, reduceIte, Nat.reduceEqDiff, Option.map] | refine And.intro (by omega) ?_))
  refine v_loop (fun S => ∃ i, S.ρ 5 = nats (.id i) (digs 4294967296 (A0 ^ n)) ∧ c ≤ i ∧ i < S.c ∧ S.σ = noBlk ∧ c1 ≤ S.c) ?_ ?_
  · refine vwp_loop (fun m S => ∃ k i, m = k ∧ k ≤ 63 ∧ S.ρ 0 = nats t (digs 4294967296 A0) ∧ S.ρ 1 = iv n ∧ S.ρ 5 = nats (.id i) (digs 4294967296 (A0 ^ (n / 2 ^ k))) ∧ c ≤ i ∧ i < S.c ∧ S.ρ 6 = iv ((k : Int) - 1) ∧ S.σ = noBlk ∧ c1 ≤ S.c) 63 ?_ ?_
    · have e0 : n / 2 ^ 63 = 0 := by omega
      refine ⟨63, i0, rfl, ?_⟩
      rw [e0, Nat.pow_zero]
      simp only [vm, ite_true, ite_false, eq_self, reduceIte, Nat.reduceEqDiff, Option.map]
      (repeat' apply And.intro) <;> first | rfl | omega | assumption
    rintro m ⟨ρ2, σ, c5⟩ ⟨k, i4, hm', hk, h0, h1, h5, hi3, hi4, h6, hσ, hc5⟩
    dsimp only at h0 h1 h5 h6 hσ hc5 hi4
    subst hσ
    rcases Nat.eq_zero_or_pos k with rfl | hkp
    · have g : ¬ (0 : Int) ≤ ((0 : Nat) : Int) - 1 := by omega
      rw [Nat.pow_zero, Nat.div_one] at h5
      (repeat (first | refine v_reg ?_ | refine v_last ?_ | refine vwp_seq ?_ | refine vwp_block ?_ | refine vwp_skip ?_ | refine vwp_exit ?_ | refine vwp_ret ?_ | refine v_cond ?_ | simp only [vm, ite_true, ite_false, eq_self, reduceIte, Nat.reduceEqDiff, Option.map, h6, g] | refine And.intro (by omega) ?_))
      exact ⟨i4, h5, hi3, hi4, hc5⟩
    obtain ⟨i, rfl⟩ : ∃ i, k = i + 1 := ⟨k - 1, by omega⟩
    have e1 : (((i + 1 : Nat) : Int) - 1) = (i : Int) := by omega
    rw [e1] at h6
    have hi0 : (0 : Int) ≤ (i : Int) := by omega
    have emin : min i 64 = i := by omega
    have hhalf := pow_half A0 n i
    have hbo := hb (n / 2 ^ (i + 1)) (Nat.div_le_self _ _)
    have hbo2 : bl (A0 ^ (n / 2 ^ (i + 1)) * A0 ^ (n / 2 ^ (i + 1))) ≤ 68719476736 := by
      rw [← Nat.pow_add]
      refine hb _ ?_
      have e : n / 2 ^ (i + 1) = n / 2 ^ i / 2 := by rw [Nat.pow_succ, Nat.div_div_eq_div_mul]
      have := Nat.div_le_self n (2 ^ i)
      omega
    generalize A0 ^ (n / 2 ^ (i + 1)) = o at *
    (repeat (first | refine v_reg ?_ | refine v_last ?_ | refine vwp_seq ?_ | refine vwp_block ?_ | refine vwp_skip ?_ | refine vwp_exit ?_ | refine vwp_ret ?_ | refine v_cond ?_ | simp only [vm, ite_true, ite_false, eq_self, reduceIte, Nat.reduceEqDiff, Option.map, h0, h1, h5, h6, hi0] | refine And.intro (by omega) ?_))
    refine s_call (mulR (.id i4) (.id i4) o o c5 hbo hbo) (by simp only [vm, ite_true, ite_false, eq_self, reduceIte, Nat.reduceEqDiff, Option.map, List.map, h5]) ?_
    rintro v c6 hc6 ⟨i6, rfl, hi6, hi7⟩
    by_cases gb : n / 2 ^ i % 2 = 1
    · rw [if_pos gb] at hhalf
      have gbi : ((n / 2 ^ i % 2 : Nat) : Int) = 1 := by omega
      (repeat (first | refine v_reg ?_ | refine v_last ?_ | refine vwp_seq ?_ | refine vwp_block ?_ | refine vwp_skip ?_ | refine vwp_exit ?_ | refine vwp_ret ?_ | refine v_cond ?_ | simp only [vm, ite_true, ite_false, eq_self, reduceIte, Nat.reduceEqDiff, Option.map, h0, h1, h5, h6, emin, gbi] | refine And.intro (by omega) ?_))
      refine s_call (mulR (.id i6) t (o * o) A0 c6 hbo2 hA) (by simp only [vm, ite_true, ite_false, eq_self, reduceIte, Nat.reduceEqDiff, Option.map, List.map, h0]) ?_
      rintro v c7 hc7 ⟨i8, rfl, hi8, hi9⟩
      rw [← hhalf]
      (repeat (first | refine v_reg ?_ | refine v_last ?_ | refine vwp_seq ?_ | refine vwp_block ?_ | refine vwp_skip ?_ | refine vwp_exit ?_ | refine vwp_ret ?_ | refine v_cond ?_ | simp only [vm, ite_true, ite_false, eq_self, reduceIte, Nat.reduceEqDiff, Option.map, h0, h1, h5, h6] | refine And.intro (by omega) ?_))
      refine ⟨i, by omega, i, i8, ?_⟩
      (repeat' apply And.intro) <;> first | rfl | omega | assumption
    · rw [if_neg gb, Nat.mul_one] at hhalf
      have gbi : ¬ ((n / 2 ^ i % 2 : Nat) : Int) = 1 := by omega
      rw [← hhalf]
      (repeat (first | refine v_reg ?_ | refine v_last ?_ | refine vwp_seq ?_ | refine vwp_block ?_ | refine vwp_skip ?_ | refine vwp_exit ?_ | refine vwp_ret ?_ | refine v_cond ?_ | simp only [vm, ite_true, ite_false, eq_self, reduceIte, Nat.reduceEqDiff, Option.map, h0, h1, h5, h6, emin, gbi] | refine And.intro (by omega) ?_))
      refine ⟨i, by omega, i, i6, ?_⟩
      (repeat' apply And.intro) <;> first | rfl | omega | assumption
  rintro ⟨ρ3, σ, c5⟩ ⟨i, h5, hi3, hi4, hσ, hc5⟩
  dsimp only at h5 hσ hc5 hi4
  subst hσ
  (repeat (first | refine v_reg ?_ | refine v_last ?_ | refine vwp_seq ?_ | refine vwp_block ?_ | refine vwp_skip ?_ | refine vwp_exit ?_ | refine vwp_ret ?_ | refine v_cond ?_ | simp only [vm, ite_true, ite_false, eq_self, reduceIte, Nat.reduceEqDiff, Option.map, h5] | refine And.intro (by omega) ?_))
  exact ⟨i, rfl, hi3, hi4⟩
end Go.Proofs.Ytladcfeibpddeab
set_option linter.unusedSimpArgs false
set_option linter.unusedVariables false
set_option maxRecDepth 100000
set_option maxHeartbeats 8000000
namespace Go.Proofs.Ytladcfeibpddeab
open Go.VM
theorem killσ_lit (t : Nat) {σ : Nat → Option Blk} (h : LitB σ) : killσ t σ = σ := by
  funext u
  unfold killσ
  cases hk : σ u with
  | none => rfl
  | some k =>
    simp only [Option.map]
    have : k.cells.map (killV t) = k.cells := by
      refine (List.map_congr_left fun x hx => ?_).trans (List.map_id _)
      obtain ⟨v, rfl⟩ := h u k hk x hx
      rfl
    rw [this]
section
variable {P : Program} {dr : Bool} {c0 : Nat} {ρ : Nat → V} {σ : Nat → Option Blk} {c i : Nat} {r : List VO} {K : VS → Prop}
theorem s_appmove {x y : X} {t n : Nat} {cap : Option Nat} {w ys : List Nat} {u : Tok} (hx : x.ev ρ = .buf t 0 n cap 1) (ht : σ t = nblk w) (hw : w.length = n) (h0 : c0 ≤ t) (hy : y.ev ρ = nats u ys) (hb : n + ys.length ≤ 17592186044416) (hσ : LitB σ)
    (hk : wps P dr c0 r ⟨upd (kill (some (.inl t)) ρ) i (.buf t 0 (n + ys.length) none 1), supd σ t (nblk (w ++ ys)), c⟩ K) : wps P dr c0 (⟨some i, .app 1 8 [.int .u64 0] x y, none⟩ :: r) ⟨ρ, σ, c⟩ K := by
  have hc : vcells 1 σ (y.ev ρ) = some (ys.map nv) := by rw [hy]; cases u <;> rfl
  refine s_eff rfl (by intros; exact fun h => by cases h) (by intros; exact fun h => by cases h) ⟨_, _, _, some (.inl t), .appMove (k := ys.length) hx ht h0 hc (by simp) (by simp; omega) (by omega) (by omega), ?_⟩
  have e : (((w.map nv).take (n * 1)) ++ ys.map nv).map (killV t) = (w ++ ys).map nv := by
    rw [Nat.mul_one, ← hw, List.take_of_length_le (by simp), ← List.map_append, List.map_map]; rfl
  rw [e, killσ_lit t hσ]
  exact hk
end
theorem kill_at (t : Nat) (ρ : Nat → V) (j : Nat) : kill (some (.inl t)) ρ j = killV t (ρ j) := rfl
theorem killV_sl (t : Nat) (tk : Tok) (l : List Nat) : killV t (nats tk l) = nats tk l := rfl
theorem killV_lit (t : Nat) (v : Value) : killV t (.lit v) = .lit v := rfl

theorem limbs_spec (t : Tok) (x : List Nat) (c : Nat) (hx : Lim 4294967296 x) (hnx : x.length ≤ 1099511627776) :
    VSpec Try.prog F.surdref01_Num_Limbs c [nats t x] (fun r c' => ∃ tk l, r = nats tk l ∧ Tk c c' tk ∧ Lim 18446744073709551616 l ∧ l.length = (x.length + 1) / 2 ∧ val 18446744073709551616 l = val 4294967296 x) := by
  refine spec_mk hm E.surdref01_Num_Limbs B.surdref01_Num_Limbs K.surdref01_Num_Limbs Q.surdref01_Num_Limbs (by rw [N.surdref01_Num_Limbs]; simp) ?_
  unfold C.surdref01_Num_Limbs R.surdref01_Num_Limbs
  (repeat (first | refine v_reg ?_ | refine v_last ?_ | refine vwp_seq ?_ | refine vwp_block ?_ | refine vwp_skip ?_ | refine vwp_exit ?_ | refine vwp_ret ?_ | refine v_cond ?_ | simp only [vm, ite_true, ite_false, eq_self, reduceIte, Nat.reduceEqDiff, Option.map] | refine And.intro (by omega) ?_))
  refine v_loop (fun S => ∃ w, Lim 18446744073709551616 w ∧ w.length = (x.length + 1) / 2 ∧ val 18446744073709551616 w = val 4294967296 x ∧ ((w = [] ∧ S.ρ 3 = nil1 ∧ S.σ = noBlk) ∨ ∃ tb, S.ρ 3 = .buf tb 0 w.length none 1 ∧ S.σ = supd noBlk tb (nblk w) ∧ c ≤ tb ∧ tb < S.c) ∧ c ≤ S.c) ?_ ?_
  · refine vwp_loop (fun k S => ∃ j w, k = x.length + 1 - 2 * j ∧ 2 * j ≤ x.length + 1 ∧ w.length = j ∧ Lim 18446744073709551616 w ∧ val 18446744073709551616 w = val 4294967296 (x.take (2 * j)) ∧ S.ρ 0 = nats t x ∧ S.ρ 4 = iv ((2 * j : Nat) : Int) ∧ ((w = [] ∧ S.ρ 3 = nil1 ∧ S.σ = noBlk) ∨ ∃ tb, S.ρ 3 = .buf tb 0 w.length none 1 ∧ S.σ = supd noBlk tb (nblk w) ∧ c ≤ tb ∧ tb < S.c) ∧ c ≤ S.c) (x.length + 1) ?_ ?_
    · refine ⟨0, [], by omega, by omega, rfl, Lim.nil, by simp [val], ?_⟩
      simp only [vm, ite_true, ite_false, eq_self, reduceIte, Nat.reduceEqDiff, Option.map]
      (repeat' apply And.intro) <;> first | rfl | exact Nat.le_refl _ | exact .inl trivial | exact .inl rfl | exact .inl ⟨rfl, rfl⟩
    rintro k ⟨ρ2, σ, c4⟩ ⟨j, w, hk, hj, hw, hlw, hinv, h0, h4, hcase, hc4⟩
    dsimp only at h0 h4 hcase hc4
    by_cases g : ((2 * j : Nat) : Int) < x.length
    · have hj' : 2 * j < x.length := by omega
      have hxi := hx.getD (i := 2 * j) (by decide)
      have hyi := hx.getD (i := 2 * j + 1) (by decide)
      have hv1 := val_take' 4294967296 x (2 * j)
      have hv2 := val_take' 4294967296 x (2 * j + 1)
      have e1 : ((2 * j : Nat) : Int) + 1 = ((2 * j + 1 : Nat) : Int) := by omega
      have e2 : ((2 * j : Nat) : Int) + 2 = ((2 * (j + 1) : Nat) : Int) := by omega
      obtain ⟨vv, hvv⟩ : ∃ vv, vv = x.getD (2 * j) 0 + x.getD (2 * j + 1) 0 * 4294967296 := ⟨_, rfl⟩
      have hvl : vv < 18446744073709551616 := by omega
      have key : val 18446744073709551616 (w ++ [vv]) = val 4294967296 (x.take (2 * (j + 1))) := by
        rw [val_append, hw, hinv, show 2 * (j + 1) = 2 * j + 1 + 1 by omega, hv2, hv1, val, val, Nat.mul_zero, Nat.add_zero, pow64, show 64 * j = 32 * (2 * j) by omega, ← pow32, hvv, Nat.pow_succ, Nat.mul_add, Nat.mul_assoc, Nat.mul_comm 4294967296]
        omega
      have ew : (w ++ [vv]).length = j + 1 := by simp [hw]
      rcases hcase with ⟨hw0, h3, hσ⟩ | ⟨tb, h3, hσ, htb, htb2⟩
      · subst hσ hw0
        obtain rfl : j = 0 := by simpa using hw.symm
        by_cases g2 : ((2 * 0 + 1 : Nat) : Int) < x.length
        · have m1 : x.getD (2 * 0 + 1) 0 * 4294967296 % 18446744073709551616 = x.getD (2 * 0 + 1) 0 * 4294967296 := Nat.mod_eq_of_lt (by omega)
          have m2 : (x.getD (2 * 0) 0 + x.getD (2 * 0 + 1) 0 * 4294967296) % 18446744073709551616 = vv := by rw [← hvv]; exact Nat.mod_eq_of_lt hvl
          (repeat (first | refine v_reg ?_ | refine v_last ?_ | refine vwp_seq ?_ | refine vwp_block ?_ | refine vwp_skip ?_ | refine vwp_exit ?_ | refine vwp_ret ?_ | refine v_cond ?_ | simp only [vm, ite_true, ite_false, eq_self, reduceIte, Nat.reduceEqDiff, Option.map, h0, h3, h4, g, e1, g2, m1, m2] | refine And.intro (by omega) ?_))
          refine s_bsl1 (n := vv) (by simp only [vm, ite_true, ite_false, eq_self, reduceIte, Nat.reduceEqDiff, Option.map]) ?_
          refine s_app0 (t := .id c4) (l := [vv]) (by simp only [vm, ite_true, ite_false, eq_self, reduceIte, Nat.reduceEqDiff, Option.map]) (by simp only [vm, ite_true, ite_false, eq_self, reduceIte, Nat.reduceEqDiff, Option.map]) (by simp) (fun e => by cases e) (fun _ => ?_)
          (repeat (first | refine v_reg ?_ | refine v_last ?_ | refine vwp_seq ?_ | refine vwp_block ?_ | refine vwp_skip ?_ | refine vwp_exit ?_ | refine vwp_ret ?_ | refine v_cond ?_ | simp only [vm, ite_true, ite_false, eq_self, reduceIte, Nat.reduceEqDiff, Option.map, h0, h3, h4, e2] | refine And.intro (by omega) ?_))
          refine ⟨x.length + 1 - 2 * (0 + 1), by omega, 0 + 1, [] ++ [vv], ?_⟩
          (repeat' apply And.intro) <;> first | rfl | omega | assumption | exact key | exact lim_snoc hlw hvl | exact .inr ⟨c4 + 1, rfl, rfl, by omega, by omega⟩
        · have hy0 : x.getD (2 * 0 + 1) 0 = 0 := getD_ge (by omega)
          have m2 : x.getD (2 * 0) 0 = vv := by rw [hvv, hy0, Nat.zero_mul, Nat.add_zero]
          (repeat (first | refine v_reg ?_ | refine v_last ?_ | refine vwp_seq ?_ | refine vwp_block ?_ | refine vwp_skip ?_ | refine vwp_exit ?_ | refine vwp_ret ?_ | refine v_cond ?_ | simp only [vm, ite_true, ite_false, eq_self, reduceIte, Nat.reduceEqDiff, Option.map, h0, h3, h4, g, e1, g2, m2] | refine And.intro (by omega) ?_))
          refine s_bsl1 (n := vv) (by simp only [vm, ite_true, ite_false, eq_self, reduceIte, Nat.reduceEqDiff, Option.map]) ?_
          refine s_app0 (t := .id c4) (l := [vv]) (by simp only [vm, ite_true, ite_false, eq_self, reduceIte, Nat.reduceEqDiff, Option.map]) (by simp only [vm, ite_true, ite_false, eq_self, reduceIte, Nat.reduceEqDiff, Option.map]) (by simp) (fun e => by cases e) (fun _ => ?_)
          (repeat (first | refine v_reg ?_ | refine v_last ?_ | refine vwp_seq ?_ | refine vwp_block ?_ | refine vwp_skip ?_ | refine vwp_exit ?_ | refine vwp_ret ?_ | refine v_cond ?_ | simp only [vm, ite_true, ite_false, eq_self, reduceIte, Nat.reduceEqDiff, Option.map, h0, h3, h4, e2] | refine And.intro (by omega) ?_))
          refine ⟨x.length + 1 - 2 * (0 + 1), by omega, 0 + 1, [] ++ [vv], ?_⟩
          (repeat' apply And.intro) <;> first | rfl | omega | assumption | exact key | exact lim_snoc hlw hvl | exact .inr ⟨c4 + 1, rfl, rfl, by omega, by omega⟩
      · subst hσ
        by_cases g2 : ((2 * j + 1 : Nat) : Int) < x.length
        · have m1 : x.getD (2 * j + 1) 0 * 4294967296 % 18446744073709551616 = x.getD (2 * j + 1) 0 * 4294967296 := Nat.mod_eq_of_lt (by omega)
          have m2 : (x.getD (2 * j) 0 + x.getD (2 * j + 1) 0 * 4294967296) % 18446744073709551616 = vv := by rw [← hvv]; exact Nat.mod_eq_of_lt hvl
          (repeat (first | refine v_reg ?_ | refine v_last ?_ | refine vwp_seq ?_ | refine vwp_block ?_ | refine vwp_skip ?_ | refine vwp_exit ?_ | refine vwp_ret ?_ | refine v_cond ?_ | simp only [vm, ite_true, ite_false, eq_self, reduceIte, Nat.reduceEqDiff, Option.map, h0, h3, h4, g, e1, g2, m1, m2] | refine And.intro (by omega) ?_))
          refine s_bsl1 (n := vv) (by simp only [vm, ite_true, ite_false, eq_self, reduceIte, Nat.reduceEqDiff, Option.map]) ?_
          refine s_appmove (t := tb) (n := w.length) (cap := none) (w := w) (u := .id c4) (ys := [vv]) (by simp only [vm, ite_true, ite_false, eq_self, reduceIte, Nat.reduceEqDiff, Option.map]) (by simp only [vm, ite_true, ite_false, eq_self, reduceIte, Nat.reduceEqDiff, Option.map]) rfl htb (by simp only [vm, ite_true, ite_false, eq_self, reduceIte, Nat.reduceEqDiff, Option.map]) (by simp; omega) (LitB.no.put _ _ _) ?_
          (repeat (first | refine v_reg ?_ | refine v_last ?_ | refine vwp_seq ?_ | refine vwp_block ?_ | refine vwp_skip ?_ | refine vwp_exit ?_ | refine vwp_ret ?_ | refine v_cond ?_ | simp only [vm, ite_true, ite_false, eq_self, reduceIte, Nat.reduceEqDiff, Option.map, kill_at, killV_sl, killV_lit, h0, h3, h4, e2] | refine And.intro (by omega) ?_))
          refine ⟨x.length + 1 - 2 * (j + 1), by omega, j + 1, w ++ [vv], ?_⟩
          (repeat' apply And.intro) <;> first | rfl | omega | assumption | exact key | exact lim_snoc hlw hvl | exact .inr ⟨tb, by simp, rfl, by omega, by omega⟩
        · have hy0 : x.getD (2 * j + 1) 0 = 0 := getD_ge (by omega)
          have m2 : x.getD (2 * j) 0 = vv := by rw [hvv, hy0, Nat.zero_mul, Nat.add_zero]
          (repeat (first | refine v_reg ?_ | refine v_last ?_ | refine vwp_seq ?_ | refine vwp_block ?_ | refine vwp_skip ?_ | refine vwp_exit ?_ | refine vwp_ret ?_ | refine v_cond ?_ | simp only [vm, ite_true, ite_false, eq_self, reduceIte, Nat.reduceEqDiff, Option.map, h0, h3, h4, g, e1, g2, m2] | refine And.intro (by omega) ?_))
          refine s_bsl1 (n := vv) (by simp only [vm, ite_true, ite_false, eq_self, reduceIte, Nat.reduceEqDiff, Option.map]) ?_
          refine s_appmove (t := tb) (n := w.length) (cap := none) (w := w) (u := .id c4) (ys := [vv]) (by simp only [vm, ite_true, ite_false, eq_self, reduceIte, Nat.reduceEqDiff, Option.map]) (by simp only [vm, ite_true, ite_false, eq_self, reduceIte, Nat.reduceEqDiff, Option.map]) rfl htb (by simp only [vm, ite_true, ite_false, eq_self, reduceIte, Nat.reduceEqDiff, Option.map]) (by simp; omega) (LitB.no.put _ _ _) ?_
          (repeat (first | refine v_reg ?_ | refine v_last ?_ | refine vwp_seq ?_ | refine vwp_block ?_ | refine vwp_skip ?_ | refine vwp_exit ?_ | refine vwp_ret ?_ | refine v_cond ?_ | simp only [vm, ite_true, ite_false, eq_self, reduceIte, Nat.reduceEqDiff, Option.map, kill_at, killV_sl, killV_lit, h0, h3, h4, e2] | refine And.intro (by omega) ?_))
          refine ⟨x.length + 1 - 2 * (j + 1), by omega, j + 1, w ++ [vv], ?_⟩
          (repeat' apply And.intro) <;> first | rfl | omega | assumption | exact key | exact lim_snoc hlw hvl | exact .inr ⟨tb, by simp, rfl, by omega, by omega⟩
    · have hall : val 4294967296 (x.take (2 * j)) = val 4294967296 x := by rw [List.take_of_length_le (by omega)]
      rw [hall] at hinv
      rcases hcase with ⟨hw0, h3, hσ⟩ | ⟨tb, h3, hσ, htb, htb2⟩
      · subst hσ
        (repeat (first | refine v_reg ?_ | refine v_last ?_ | refine vwp_seq ?_ | refine vwp_block ?_ | refine vwp_skip ?_ | refine vwp_exit ?_ | refine vwp_ret ?_ | refine v_cond ?_ | simp only [vm, ite_true, ite_false, eq_self, reduceIte, Nat.reduceEqDiff, Option.map, h0, h3, h4, g] | refine And.intro (by omega) ?_))
        exact ⟨w, hlw, by omega, hinv, .inl hw0, hc4⟩
      · subst hσ
        (repeat (first | refine v_reg ?_ | refine v_last ?_ | refine vwp_seq ?_ | refine vwp_block ?_ | refine vwp_skip ?_ | refine vwp_exit ?_ | refine vwp_ret ?_ | refine v_cond ?_ | simp only [vm, ite_true, ite_false, eq_self, reduceIte, Nat.reduceEqDiff, Option.map, h0, h3, h4, g] | refine And.intro (by omega) ?_))
        refine ⟨w, hlw, by omega, hinv, .inr ⟨tb, ?_⟩, hc4⟩
        first | exact ⟨rfl, rfl, htb, htb2⟩ | exact ⟨h3, rfl, htb, htb2⟩
  rintro ⟨ρ3, σ, c5⟩ ⟨w, hlw, hwn, hvw, hcase, hc5⟩
  dsimp only at hcase hc5
  rcases hcase with ⟨hw0, h3, hσ⟩ | ⟨tb, h3, hσ, htb, htb2⟩
  · subst hσ hw0
    (repeat (first | refine v_reg ?_ | refine v_last ?_ | refine vwp_seq ?_ | refine vwp_block ?_ | refine vwp_skip ?_ | refine vwp_exit ?_ | refine vwp_ret ?_ | refine v_cond ?_ | simp only [vm, ite_true, ite_false, eq_self, reduceIte, Nat.reduceEqDiff, Option.map, h3] | refine And.intro (by omega) ?_))
    exact ⟨.nil, [], rfl, .inl rfl, Lim.nil, hwn, hvw⟩
  · subst hσ
    refine v_freeze 3 (t := tb) (off := 0) (n := w.length) (cap := none) (l := w) (by simp only [vm, ite_true, ite_false, eq_self, reduceIte, Nat.reduceEqDiff, Option.map, h3]) (by simp only [vm, ite_true, ite_false, eq_self, reduceIte, Nat.reduceEqDiff, Option.map]) (by omega) (by omega) ?_
    rw [List.drop_zero, List.take_length]
    (repeat (first | refine v_reg ?_ | refine v_last ?_ | refine vwp_seq ?_ | refine vwp_block ?_ | refine vwp_skip ?_ | refine vwp_exit ?_ | refine vwp_ret ?_ | refine v_cond ?_ | simp only [vm, ite_true, ite_false, eq_self, reduceIte, Nat.reduceEqDiff, Option.map] | refine And.intro (by omega) ?_))
    exact ⟨.id tb, w, rfl, .inr ⟨tb, rfl, by omega, by omega⟩, hlw, hwn, hvw⟩
end Go.Proofs.Ytladcfeibpddeab
set_option linter.unusedSimpArgs false
set_option linter.unusedVariables false
set_option maxRecDepth 100000
set_option maxHeartbeats 8000000
namespace Go.Proofs.Ytladcfeibpddeab
open Go.VM

theorem limbs_norm {n : Nat} {l : List Nat} (hl : Lim 18446744073709551616 l) (hn : l.length = ((digs 4294967296 n).length + 1) / 2) (hv : val 18446744073709551616 l = n) : l = digs 18446744073709551616 n := by
  rcases Nat.eq_zero_or_pos n with h | h
  · subst h
    have e : (digs 4294967296 0).length = 0 := rfl
    rw [e] at hn
    have e2 : l = [] := List.eq_nil_of_length_eq_zero (by omega)
    rw [e2]
    rfl
  · refine val_inj two64 hl (lim_digs two64 n) ?_ (by rw [hv, val_digs two64])
    have h1 := digs_len_pos two32 h
    have h2 : 0 < (digs 4294967296 n).length := by
      rcases Nat.eq_zero_or_pos (digs 4294967296 n).length with g | g
      · have := (digs_eq_nil two32).1 (List.eq_nil_of_length_eq_zero g); omega
      · exact g
    have h3 : l.length - 1 < (digs 18446744073709551616 n).length := by
      refine digs_len_lt two64 (Nat.le_trans ?_ h1)
      rw [pow64, pow32]
      exact Nat.pow_le_pow_right (by decide) (by omega)
    have h4 : (digs 18446744073709551616 n).length ≤ l.length := by
      refine digs_len two64 ?_
      rw [← hv]
      exact val_lt hl
    omega

theorem limbs_num (t : Tok) (n c : Nat) (hn : (digs 4294967296 n).length ≤ 1099511627776) :
    VSpec Try.prog F.surdref01_Num_Limbs c [nats t (digs 4294967296 n)] (fun r c' => NatR c c' n r) := by
  refine (limbs_spec t (digs 4294967296 n) c (lim_digs two32 n) hn).mono ?_
  rintro r c' ⟨tk, l, rfl, ht, hl, hln, hlv⟩
  rw [val_digs two32] at hlv
  exact ⟨tk, by rw [limbs_norm hl hln hlv], ht⟩

theorem is_spec (t u : Tok) (n : Nat) (l : List Nat) (c : Nat) (hn : (digs 4294967296 n).length ≤ 1099511627776) (hl : l.length ≤ 1099511627776) :
    VSpec Try.prog F.surdref01_Num_Is c [nats t (digs 4294967296 n), nats u l] (fun r _ => r = bv (decide (l = digs 18446744073709551616 n))) := by
  refine spec_mk hm E.surdref01_Num_Is B.surdref01_Num_Is K.surdref01_Num_Is Q.surdref01_Num_Is (by rw [N.surdref01_Num_Is]; simp) ?_
  unfold C.surdref01_Num_Is R.surdref01_Num_Is
  (repeat (first | refine v_reg ?_ | refine v_last ?_ | refine vwp_seq ?_ | refine vwp_block ?_ | refine vwp_skip ?_ | refine vwp_exit ?_ | refine vwp_ret ?_ | refine v_cond ?_ | simp only [vm, ite_true, ite_false, eq_self, reduceIte, Nat.reduceEqDiff, Option.map] | refine And.intro (by omega) ?_))
  refine s_call (limbs_num t n c hn) (by simp only [vm, ite_true, ite_false, eq_self, reduceIte, Nat.reduceEqDiff, Option.map, List.map]) ?_
  rintro v c1 hc1 ⟨tk, rfl, _⟩
  have hwl : (digs 18446744073709551616 n).length ≤ 1099511627776 := by
    refine Nat.le_trans (digs_len two64 (k := (digs 4294967296 n).length) ?_) hn
    have := val_lt (lim_digs two32 n)
    rw [val_digs two32] at this
    exact Nat.lt_of_lt_of_le this (Nat.pow_le_pow_left (by decide) _)
  generalize digs 18446744073709551616 n = w at *
  by_cases g : (w.length : Int) = l.length
  rotate_left
  · (repeat (first | refine v_reg ?_ | refine v_last ?_ | refine vwp_seq ?_ | refine vwp_block ?_ | refine vwp_skip ?_ | refine vwp_exit ?_ | refine vwp_ret ?_ | refine v_cond ?_ | simp only [vm, ite_true, ite_false, eq_self, reduceIte, Nat.reduceEqDiff, Option.map, g] | refine And.intro (by omega) ?_))
    rw [decide_eq_false]
    intro e
    rw [e] at g
    exact g rfl
  have hwl2 : w.length = l.length := by omega
  (repeat (first | refine v_reg ?_ | refine v_last ?_ | refine vwp_seq ?_ | refine vwp_block ?_ | refine vwp_skip ?_ | refine vwp_exit ?_ | refine vwp_ret ?_ | refine v_cond ?_ | simp only [vm, ite_true, ite_false, eq_self, reduceIte, Nat.reduceEqDiff, Option.map, g] | refine And.intro (by omega) ?_))
  refine v_loopR (fun S => l = w ∧ S.σ = noBlk ∧ c ≤ S.c) ?_ ?_
  · refine vwp_loop (fun k S => ∃ i, k = w.length - i ∧ i ≤ w.length ∧ l.take i = w.take i ∧ S.ρ 5 = nats tk w ∧ S.ρ 1 = nats u l ∧ S.ρ 15 = iv l.length ∧ S.ρ 16 = iv i ∧ S.σ = noBlk ∧ c ≤ S.c) w.length ?_ ?_
    · refine ⟨0, by omega, by omega, ?_⟩
      simp only [vm, ite_true, ite_false, eq_self, reduceIte, Nat.reduceEqDiff, Option.map, g]
      (repeat' apply And.intro) <;> first | rfl | omega | assumption
    rintro k ⟨ρ, σ, c3⟩ ⟨i, hk, hi, ht, h5, h1, h15, h16, hσ, hc3⟩
    dsimp only at h5 h1 h15 h16 hσ hc3
    subst hσ
    by_cases g2 : (i : Int) < l.length
    · have t1 := take_snoc (l := l) (i := i) (by omega)
      have t2 := take_snoc (l := w) (i := i) (by omega)
      by_cases g3 : w.getD i 0 = l.getD i 0
      · (repeat (first | refine v_reg ?_ | refine v_last ?_ | refine vwp_seq ?_ | refine vwp_block ?_ | refine vwp_skip ?_ | refine vwp_exit ?_ | refine vwp_ret ?_ | refine v_cond ?_ | simp only [vm, ite_true, ite_false, eq_self, reduceIte, Nat.reduceEqDiff, Option.map, h5, h1, h15, h16, g2, g3] | refine And.intro (by omega) ?_))
        refine ⟨w.length - (i + 1), by omega, i + 1, ?_⟩
        have : l.take (i + 1) = w.take (i + 1) := by rw [t1, t2, ht, g3]
        (repeat' apply And.intro) <;> first | rfl | omega | assumption | exact this
      · (repeat (first | refine v_reg ?_ | refine v_last ?_ | refine vwp_seq ?_ | refine vwp_block ?_ | refine vwp_skip ?_ | refine vwp_exit ?_ | refine vwp_ret ?_ | refine v_cond ?_ | simp only [vm, ite_true, ite_false, eq_self, reduceIte, Nat.reduceEqDiff, Option.map, h5, h1, h15, h16, g2, g3] | refine And.intro (by omega) ?_))
        rw [decide_eq_false]
        intro e
        rw [e] at g3
        exact g3 rfl
    · (repeat (first | refine v_reg ?_ | refine v_last ?_ | refine vwp_seq ?_ | refine vwp_block ?_ | refine vwp_skip ?_ | refine vwp_exit ?_ | refine vwp_ret ?_ | refine v_cond ?_ | simp only [vm, ite_true, ite_false, eq_self, reduceIte, Nat.reduceEqDiff, Option.map, h5, h1, h15, h16, g2] | refine And.intro (by omega) ?_))
      have : i = w.length := by omega
      subst this
      rw [List.take_length, hwl2, List.take_length] at ht
      exact ⟨ht, hc3⟩
  rintro ⟨ρ3, σ, c5⟩ ⟨he, hσ, hc5⟩
  dsimp only at hσ hc5
  subst hσ
  (repeat (first | refine v_reg ?_ | refine v_last ?_ | refine vwp_seq ?_ | refine vwp_block ?_ | refine vwp_skip ?_ | refine vwp_exit ?_ | refine vwp_ret ?_ | refine v_cond ?_ | simp only [vm, ite_true, ite_false, eq_self, reduceIte, Nat.reduceEqDiff, Option.map] | refine And.intro (by omega) ?_))
  rw [decide_eq_true he]

/-- an answer that is the document's -/
theorem alike_ok (t u : Tok) (n c : Nat) (hn : bl n ≤ 67108864) : VSpec Try.prog F.surdlaw04_alike c [nats t (digs 18446744073709551616 n), iv 0, nats u (digs 4294967296 n), iv 0] (fun r _ => r = bv true) := by
  refine spec_mk hm E.surdlaw04_alike B.surdlaw04_alike K.surdlaw04_alike Q.surdlaw04_alike (by rw [N.surdlaw04_alike]; simp) ?_
  unfold C.surdlaw04_alike R.surdlaw04_alike
  (repeat (first | refine v_reg ?_ | refine v_last ?_ | refine vwp_seq ?_ | refine vwp_block ?_ | refine vwp_skip ?_ | refine vwp_exit ?_ | refine vwp_ret ?_ | refine v_cond ?_ | simp only [vm, ite_true, ite_false, eq_self, reduceIte, Nat.reduceEqDiff, Option.map] | refine And.intro (by omega) ?_))
  refine s_call (num_spec 0 c) (by simp only [vm, ite_true, ite_false, eq_self, reduceIte, Nat.reduceEqDiff, Option.map, List.map]) ?_
  rintro v c1 hc1 rfl
  (repeat (first | refine v_reg ?_ | refine v_last ?_ | refine vwp_seq ?_ | refine vwp_block ?_ | refine vwp_skip ?_ | refine vwp_exit ?_ | refine vwp_ret ?_ | refine v_cond ?_ | simp only [vm, ite_true, ite_false, eq_self, reduceIte, Nat.reduceEqDiff, Option.map] | refine And.intro (by omega) ?_))
  refine s_call (is_spec u t n (digs 18446744073709551616 n) c1 (Nat.le_trans (len32_bl (k := 2097152) (by omega)) (by decide)) (Nat.le_trans (digs_len_bl (k := 1048576) (by omega)) (by decide))) (by simp only [vm, ite_true, ite_false, eq_self, reduceIte, Nat.reduceEqDiff, Option.map, List.map]) ?_
  rintro v c2 hc2 rfl
  (repeat (first | refine v_reg ?_ | refine v_last ?_ | refine vwp_seq ?_ | refine vwp_block ?_ | refine vwp_skip ?_ | refine vwp_exit ?_ | refine vwp_ret ?_ | refine v_cond ?_ | simp only [vm, ite_true, ite_false, eq_self, reduceIte, Nat.reduceEqDiff, Option.map] | refine And.intro (by omega) ?_))
  first | omega | exact ⟨by omega, by rw [decide_eq_true rfl]⟩
/-- an error that is the document's -/
theorem alike_err (f : Int) (u : Tok) (l : List Nat) (c : Nat) (hf : ¬ f = 0) : VSpec Try.prog F.surdlaw04_alike c [nil1, iv f, nats u l, iv f] (fun r _ => r = bv true) := by
  refine spec_mk hm E.surdlaw04_alike B.surdlaw04_alike K.surdlaw04_alike Q.surdlaw04_alike (by rw [N.surdlaw04_alike]; simp) ?_
  unfold C.surdlaw04_alike R.surdlaw04_alike
  (repeat (first | refine v_reg ?_ | refine v_last ?_ | refine vwp_seq ?_ | refine vwp_block ?_ | refine vwp_skip ?_ | refine vwp_exit ?_ | refine vwp_ret ?_ | refine v_cond ?_ | simp only [vm, ite_true, ite_false, eq_self, reduceIte, Nat.reduceEqDiff, Option.map] | refine And.intro (by omega) ?_))
  refine s_call (num_spec f c) (by simp only [vm, ite_true, ite_false, eq_self, reduceIte, Nat.reduceEqDiff, Option.map, List.map]) ?_
  rintro v c1 hc1 rfl
  (repeat (first | refine v_reg ?_ | refine v_last ?_ | refine vwp_seq ?_ | refine vwp_block ?_ | refine vwp_skip ?_ | refine vwp_exit ?_ | refine vwp_ret ?_ | refine v_cond ?_ | simp only [vm, ite_true, ite_false, eq_self, reduceIte, Nat.reduceEqDiff, Option.map, hf] | refine And.intro (by omega) ?_))
  omega
end Go.Proofs.Ytladcfeibpddeab
set_option linter.unusedSimpArgs false
set_option linter.unusedVariables false
set_option maxRecDepth 100000
set_option maxHeartbeats 8000000
namespace Go.Proofs.Ytladcfeibpddeab
open Go.VM

def wholeL (a : List Nat) : List Nat := [10855845, 10855845] ++ a ++ [10855845, 10855845]
theorem wholeL_len (a : List Nat) : (wholeL a).length = a.length + 4 := by simp [wholeL]
theorem wholeL_at (a : List Nat) (i : Nat) (h : i < a.length + 4) : (wholeL a).getD i 0 = if 2 ≤ i ∧ i < a.length + 2 then a.getD (i - 2) 0 else 10855845 := by
  unfold wholeL
  rcases Nat.lt_or_ge i 2 with g | g
  · rw [if_neg (by omega)]
    match i, g with
    | 0, _ => rfl
    | 1, _ => rfl
  · obtain ⟨j, rfl⟩ : ∃ j, i = j + 2 := ⟨i - 2, by omega⟩
    show (a ++ [10855845, 10855845]).getD j 0 = _
    rcases Nat.lt_or_ge j a.length with g2 | g2
    · rw [if_pos (by omega), getD_append_left g2]; rfl
    · rw [if_neg (by omega)]
      obtain ⟨k, rfl⟩ : ∃ k, j = a.length + k := ⟨j - a.length, by omega⟩
      rw [List.getD_eq_getElem?_getD, List.getElem?_append_right (by omega)]
      have : k = 0 ∨ k = 1 := by omega
      rcases this with rfl | rfl
      · simp
      · simp

theorem kept_spec (t u : Tok) (a : List Nat) (c : Nat) (hna : a.length ≤ 1099511627776) : VSpec Try.prog F.surdref01_Kept c [nats t (wholeL a), nats u a] (fun r _ => r = bv true) := by
  refine spec_mk hm E.surdref01_Kept B.surdref01_Kept K.surdref01_Kept Q.surdref01_Kept (by rw [N.surdref01_Kept]; simp) ?_
  unfold C.surdref01_Kept R.surdref01_Kept
  have hl := wholeL_len a
  have g0 : ((a.length + 4 : Nat) : Int) = (a.length : Int) + 4 := by omega
  (repeat (first | refine v_reg ?_ | refine v_last ?_ | refine vwp_seq ?_ | refine vwp_block ?_ | refine vwp_skip ?_ | refine vwp_exit ?_ | refine vwp_ret ?_ | refine v_cond ?_ | simp only [vm, ite_true, ite_false, eq_self, reduceIte, Nat.reduceEqDiff, Option.map, hl, g0] | refine And.intro (by omega) ?_))
  refine v_loopR (fun S => S.σ = noBlk ∧ c ≤ S.c) ?_ ?_
  · refine vwp_loop (fun k S => ∃ i, k = a.length + 4 - i ∧ i ≤ a.length + 4 ∧ S.ρ 1 = nats u a ∧ S.ρ 13 = nats t (wholeL a) ∧ S.ρ 14 = iv ((a.length + 4 : Nat) : Int) ∧ S.ρ 15 = iv i ∧ S.σ = noBlk ∧ c ≤ S.c) (a.length + 4) ?_ ?_
    · refine ⟨0, by omega, by omega, ?_⟩
      simp only [vm, ite_true, ite_false, eq_self, reduceIte, Nat.reduceEqDiff, Option.map, hl, g0]
      (repeat' apply And.intro) <;> first | rfl | omega | assumption
    rintro k ⟨ρ, σ, c3⟩ ⟨i, hk, hi, h1, h13, h14, h15, hσ, hc3⟩
    dsimp only at h1 h13 h14 h15 hσ hc3
    subst hσ
    by_cases g2 : (i : Int) < ((a.length + 4 : Nat) : Int)
    · have hat := wholeL_at a i (by omega)
      by_cases g3 : (i : Int) < 2
      · rw [if_neg (by omega)] at hat
        (repeat (first | refine v_reg ?_ | refine v_last ?_ | refine vwp_seq ?_ | refine vwp_block ?_ | refine vwp_skip ?_ | refine vwp_exit ?_ | refine vwp_ret ?_ | refine v_cond ?_ | simp only [vm, ite_true, ite_false, eq_self, reduceIte, Nat.reduceEqDiff, Option.map, h1, h13, h14, h15, g2, g3, hl, hat] | refine And.intro (by omega) ?_))
        refine ⟨a.length + 4 - (i + 1), by omega, i + 1, ?_⟩
        (repeat' apply And.intro) <;> first | rfl | omega | assumption
      · by_cases g4 : (a.length : Int) + 2 ≤ (i : Int)
        · rw [if_neg (by omega)] at hat
          (repeat (first | refine v_reg ?_ | refine v_last ?_ | refine vwp_seq ?_ | refine vwp_block ?_ | refine vwp_skip ?_ | refine vwp_exit ?_ | refine vwp_ret ?_ | refine v_cond ?_ | simp only [vm, ite_true, ite_false, eq_self, reduceIte, Nat.reduceEqDiff, Option.map, h1, h13, h14, h15, g2, g3, g4, hl, hat] | refine And.intro (by omega) ?_))
          refine ⟨a.length + 4 - (i + 1), by omega, i + 1, ?_⟩
          (repeat' apply And.intro) <;> first | rfl | omega | assumption
        · rw [if_pos (by omega)] at hat
          have e1 : ((i : Int) - 2).toNat = i - 2 := by omega
          (repeat (first | refine v_reg ?_ | refine v_last ?_ | refine vwp_seq ?_ | refine vwp_block ?_ | refine vwp_skip ?_ | refine vwp_exit ?_ | refine vwp_ret ?_ | refine v_cond ?_ | simp only [vm, ite_true, ite_false, eq_self, reduceIte, Nat.reduceEqDiff, Option.map, h1, h13, h14, h15, g2, g3, g4, hl, hat, e1] | refine And.intro (by omega) ?_))
          refine ⟨a.length + 4 - (i + 1), by omega, i + 1, ?_⟩
          (repeat' apply And.intro) <;> first | rfl | omega | assumption
    · (repeat (first | refine v_reg ?_ | refine v_last ?_ | refine vwp_seq ?_ | refine vwp_block ?_ | refine vwp_skip ?_ | refine vwp_exit ?_ | refine vwp_ret ?_ | refine v_cond ?_ | simp only [vm, ite_true, ite_false, eq_self, reduceIte, Nat.reduceEqDiff, Option.map, h1, h13, h14, h15, g2] | refine And.intro (by omega) ?_))
      omega
  rintro ⟨ρ3, σ, c5⟩ ⟨hσ, hc5⟩
  dsimp only at hσ hc5
  subst hσ
  (repeat (first | refine v_reg ?_ | refine v_last ?_ | refine vwp_seq ?_ | refine vwp_block ?_ | refine vwp_skip ?_ | refine vwp_exit ?_ | refine vwp_ret ?_ | refine v_cond ?_ | simp only [vm, ite_true, ite_false, eq_self, reduceIte, Nat.reduceEqDiff, Option.map] | refine And.intro (by omega) ?_))
  omega

theorem lend_spec (t : Tok) (a : List Nat) (c : Nat) (ha : Lim 18446744073709551616 a) (hna : a.length ≤ 1099511627776) :
    VSpec Try.prog F.surdref01_Lend c [nats t a] (fun r c' => ∃ i, r = .tup [nats (.id i) (wholeL a), nats (.sub i) a] ∧ c ≤ i ∧ i < c') := by
  refine spec_mk hm E.surdref01_Lend B.surdref01_Lend K.surdref01_Lend Q.surdref01_Lend (by rw [N.surdref01_Lend]; simp) ?_
  unfold C.surdref01_Lend R.surdref01_Lend
  (repeat (first | refine v_reg ?_ | refine v_last ?_ | refine vwp_seq ?_ | refine vwp_block ?_ | refine vwp_skip ?_ | refine vwp_exit ?_ | refine vwp_ret ?_ | refine v_cond ?_ | simp only [vm, ite_true, ite_false, eq_self, reduceIte, Nat.reduceEqDiff, Option.map] | refine And.intro (by omega) ?_))
  refine s_mk (n := a.length + 4) (m := a.length + 4) (by simp only [vm, ite_true, ite_false, eq_self, reduceIte, Nat.reduceEqDiff, Option.map]; rfl) (by simp only [vm, ite_true, ite_false, eq_self, reduceIte, Nat.reduceEqDiff, Option.map]; rfl) (Nat.le_refl _) (by omega) ?_
  (repeat (first | refine v_reg ?_ | refine v_last ?_ | refine vwp_seq ?_ | refine vwp_block ?_ | refine vwp_skip ?_ | refine vwp_exit ?_ | refine vwp_ret ?_ | refine v_cond ?_ | simp only [vm, ite_true, ite_false, eq_self, reduceIte, Nat.reduceEqDiff, Option.map] | refine And.intro (by omega) ?_))
  refine v_loop (fun S => S.ρ 0 = nats t a ∧ S.ρ 4 = .buf c 0 (a.length + 4) (some (a.length + 4)) 1 ∧ S.σ = supd noBlk c (nblk (List.replicate (a.length + 4) 10855845)) ∧ c + 1 ≤ S.c) ?_ ?_
  · refine vwp_loop (fun k S => ∃ i, k = a.length + 4 - i ∧ i ≤ a.length + 4 ∧ S.ρ 0 = nats t a ∧ S.ρ 4 = .buf c 0 (a.length + 4) (some (a.length + 4)) 1 ∧ S.ρ 13 = iv ((a.length + 4 : Nat) : Int) ∧ S.ρ 14 = iv i ∧ S.σ = supd noBlk c (nblk (List.replicate i 10855845 ++ List.replicate (a.length + 4 - i) 0)) ∧ c + 1 ≤ S.c) (a.length + 4) ?_ ?_
    · refine ⟨0, by omega, by omega, ?_⟩
      simp only [vm, ite_true, ite_false, eq_self, reduceIte, Nat.reduceEqDiff, Option.map]
      (repeat' apply And.intro) <;> first | rfl | omega | assumption
    rintro k ⟨ρ, σ, c3⟩ ⟨i, hk, hi, h0, h4, h13, h14, hσ, hc3⟩
    dsimp only at h0 h4 h13 h14 hσ hc3
    subst hσ
    by_cases g : (i : Int) < ((a.length + 4 : Nat) : Int)
    · have hlen : (List.replicate i 10855845 ++ List.replicate (a.length + 4 - i) 0).length = a.length + 4 := by simp; omega
      have hset : (List.replicate i 10855845 ++ List.replicate (a.length + 4 - i) 0).set i 10855845 = List.replicate (i + 1) 10855845 ++ List.replicate (a.length + 4 - (i + 1)) 0 := by
        have := set_fill (List.replicate i 10855845) (a.length + 4 - (i + 1)) 10855845
        rw [List.length_replicate] at this
        rw [show a.length + 4 - i = a.length + 4 - (i + 1) + 1 by omega, this, List.replicate_succ']
      (repeat (first | refine v_reg ?_ | refine v_last ?_ | refine vwp_seq ?_ | refine vwp_block ?_ | refine vwp_skip ?_ | refine vwp_exit ?_ | refine vwp_ret ?_ | refine v_cond ?_ | simp only [vm, ite_true, ite_false, eq_self, reduceIte, Nat.reduceEqDiff, Option.map, h0, h4, h13, h14, g, hlen, hset] | refine And.intro (by omega) ?_))
      refine ⟨a.length + 4 - (i + 1), by omega, i + 1, ?_⟩
      (repeat' apply And.intro) <;> first | rfl | omega | assumption
    · have : i = a.length + 4 := by omega
      subst this
      (repeat (first | refine v_reg ?_ | refine v_last ?_ | refine vwp_seq ?_ | refine vwp_block ?_ | refine vwp_skip ?_ | refine vwp_exit ?_ | refine vwp_ret ?_ | refine v_cond ?_ | simp only [vm, ite_true, ite_false, eq_self, reduceIte, Nat.reduceEqDiff, Option.map, h0, h4, h13, h14, g] | refine And.intro (by omega) ?_))
      rw [Nat.sub_self, List.replicate_zero, List.append_nil]
      (repeat' apply And.intro) <;> first | rfl | omega | assumption
  rintro ⟨ρ3, σ, c5⟩ ⟨h0, h4, hσ, hc5⟩
  dsimp only at h0 h4 hσ hc5
  subst hσ
  (repeat (first | refine v_reg ?_ | refine v_last ?_ | refine vwp_seq ?_ | refine vwp_block ?_ | refine vwp_skip ?_ | refine vwp_exit ?_ | refine vwp_ret ?_ | refine v_cond ?_ | simp only [vm, ite_true, ite_false, eq_self, reduceIte, Nat.reduceEqDiff, Option.map, h0, h4] | refine And.intro (by omega) ?_))
  refine v_loop (fun S => S.ρ 0 = nats t a ∧ S.ρ 4 = .buf c 0 (a.length + 4) (some (a.length + 4)) 1 ∧ S.σ = supd noBlk c (nblk (wholeL a)) ∧ c + 1 ≤ S.c) ?_ ?_
  · refine vwp_loop (fun k S => ∃ i, k = a.length - i ∧ i ≤ a.length ∧ S.ρ 0 = nats t a ∧ S.ρ 4 = .buf c 0 (a.length + 4) (some (a.length + 4)) 1 ∧ S.ρ 21 = nats t a ∧ S.ρ 22 = iv a.length ∧ S.ρ 23 = iv i ∧ S.σ = supd noBlk c (nblk (([10855845, 10855845] ++ a.take i) ++ List.replicate (a.length - i + 2) 10855845)) ∧ c + 1 ≤ S.c) a.length ?_ ?_
    · refine ⟨0, by omega, by omega, ?_⟩
      have e0 : List.replicate (a.length + 4) 10855845 = ([10855845, 10855845] ++ a.take 0) ++ List.replicate (a.length - 0 + 2) 10855845 := by
        rw [show a.length + 4 = (a.length - 0 + 2) + 1 + 1 by omega, List.replicate_succ, List.replicate_succ]; simp
      simp only [vm, ite_true, ite_false, eq_self, reduceIte, Nat.reduceEqDiff, Option.map, h0, h4]
      (repeat' apply And.intro) <;> first | rfl | omega | assumption | (rw [e0])
    rintro k ⟨ρ, σ, c3⟩ ⟨i, hk, hi, h0, h4, h21, h22, h23, hσ, hc3⟩
    dsimp only at h0 h4 h21 h22 h23 hσ hc3
    subst hσ
    by_cases g : (i : Int) < a.length
    · have hti : (a.take i).length = i := by simp; omega
      have hlen : (([10855845, 10855845] ++ a.take i) ++ List.replicate (a.length - i + 2) 10855845).length = a.length + 4 := by simp; omega
      have hset : ∀ v, (([10855845, 10855845] ++ a.take i) ++ List.replicate (a.length - i + 2) 10855845).set (i + 2) v = (([10855845, 10855845] ++ a.take i) ++ [v]) ++ List.replicate (a.length - (i + 1) + 2) 10855845 := fun v => by
        have e : ([10855845, 10855845] ++ a.take i).length = i + 2 := by simp; omega
        rw [show a.length - i + 2 = (a.length - (i + 1) + 2) + 1 by omega, List.replicate_succ]
        conv => lhs; rw [← e]
        rw [set_at]; simp
      have e2 : ((i : Int) + 2).toNat = i + 2 := by omega
      have hts := take_snoc (l := a) (i := i) (by omega)
      (repeat (first | refine v_reg ?_ | refine v_last ?_ | refine vwp_seq ?_ | refine vwp_block ?_ | refine vwp_skip ?_ | refine vwp_exit ?_ | refine vwp_ret ?_ | refine v_cond ?_ | simp only [vm, ite_true, ite_false, eq_self, reduceIte, Nat.reduceEqDiff, Option.map, h0, h4, h21, h22, h23, g, e2, hlen, hset] | refine And.intro (by omega) ?_))
      refine ⟨a.length - (i + 1), by omega, i + 1, ?_⟩
      rw [hts, ← List.append_assoc [10855845, 10855845]]
      (repeat' apply And.intro) <;> first | rfl | omega | assumption
    · have : i = a.length := by omega
      subst this
      (repeat (first | refine v_reg ?_ | refine v_last ?_ | refine vwp_seq ?_ | refine vwp_block ?_ | refine vwp_skip ?_ | refine vwp_exit ?_ | refine vwp_ret ?_ | refine v_cond ?_ | simp only [vm, ite_true, ite_false, eq_self, reduceIte, Nat.reduceEqDiff, Option.map, h0, h4, h21, h22, h23, g] | refine And.intro (by omega) ?_))
      have e0 : ([10855845, 10855845] ++ a.take a.length) ++ List.replicate (a.length - a.length + 2) 10855845 = wholeL a := by rw [List.take_length, Nat.sub_self]; rfl
      rw [e0]
      (repeat' apply And.intro) <;> first | rfl | omega | assumption
  rintro ⟨ρ4, σ, c6⟩ ⟨h0, h4, hσ, hc6⟩
  dsimp only at h0 h4 hσ hc6
  subst hσ
  have hl := wholeL_len a
  refine v_freeze 4 (t := c) (off := 0) (n := a.length + 4) (cap := some (a.length + 4)) (l := wholeL a) (by simp only [vm, ite_true, ite_false, eq_self, reduceIte, Nat.reduceEqDiff, Option.map, h4]) (by simp only [vm, ite_true, ite_false, eq_self, reduceIte, Nat.reduceEqDiff, Option.map]) (by omega) (by omega) ?_
  rw [List.drop_zero, show (wholeL a).take (a.length + 4) = wholeL a from List.take_of_length_le (by omega)]
  have e1 : (2 : Int).toNat = 2 := rfl
  have e2 : ((a.length : Int) + 2).toNat = a.length + 2 := by omega
  have e3 : ((wholeL a).drop 2).take (a.length + 2 - 2) = a := by
    show (a ++ [10855845, 10855845]).take (a.length + 2 - 2) = a
    rw [Nat.add_sub_cancel, List.take_append_of_le_length (Nat.le_refl _), List.take_length]
  have e4 : Tok.cut 2 (.id c) = .sub c := rfl
  (repeat (first | refine v_reg ?_ | refine v_last ?_ | refine vwp_seq ?_ | refine vwp_block ?_ | refine vwp_skip ?_ | refine vwp_exit ?_ | refine vwp_ret ?_ | refine v_cond ?_ | simp only [vm, ite_true, ite_false, eq_self, reduceIte, Nat.reduceEqDiff, Option.map, h0, hl, e1, e2, e3, e4] | refine And.intro (by omega) ?_))
  exact ⟨c, rfl, by omega, by omega⟩
end Go.Proofs.Ytladcfeibpddeab
set_option linter.unusedSimpArgs false
set_option linter.unusedVariables false
set_option maxRecDepth 100000
set_option maxHeartbeats 8000000
namespace Go.Proofs.Ytladcfeibpddeab
open Go.VM

theorem sub_digit {x y o d : Nat} (hx : x < 4294967296) (hy : y < 4294967296) (ho : o ≤ 1) (hd : d = (x + 4294967296 - y - o) % 4294967296) : d + y + o = x + 4294967296 * (1 - (x + 4294967296 - y - o) / 4294967296) ∧ 1 - (x + 4294967296 - y - o) / 4294967296 ≤ 1 ∧ d < 4294967296 := by omega
theorem sub_m1 {x y o : Nat} (hx : x < 4294967296) (hy : y < 4294967296) (ho : o ≤ 1) : ((x + 4294967296) % 18446744073709551616 + (18446744073709551616 - y % 18446744073709551616)) % 18446744073709551616 = x + 4294967296 - y ∧ (x + 4294967296 - y + (18446744073709551616 - o % 18446744073709551616)) % 18446744073709551616 = x + 4294967296 - y - o ∧ (x + 4294967296 - y - o) / 4294967296 % 18446744073709551616 = (x + 4294967296 - y - o) / 4294967296 ∧ (1 + (18446744073709551616 - (x + 4294967296 - y - o) / 4294967296)) % 18446744073709551616 = 1 - (x + 4294967296 - y - o) / 4294967296 := by omega

theorem sub32_spec (t u : Tok) (a b : List Nat) (c : Nat) (ha : Lim 4294967296 a) (hb : Lim 4294967296 b) (hna : a.length ≤ 1099511627776) (hnb : b.length ≤ a.length) (hle : val 4294967296 b ≤ val 4294967296 a) :
    VSpec Try.prog F.surdref01_Sub c [nats t a, nats u b] (fun r c' => ∃ i, r = nats (.id i) (digs 4294967296 (val 4294967296 a - val 4294967296 b)) ∧ c ≤ i ∧ i < c') := by
  refine spec_mk hm E.surdref01_Sub B.surdref01_Sub K.surdref01_Sub Q.surdref01_Sub (by rw [N.surdref01_Sub]; simp) ?_
  unfold C.surdref01_Sub R.surdref01_Sub
  (repeat (first | refine v_reg ?_ | refine v_last ?_ | refine vwp_seq ?_ | refine vwp_block ?_ | refine vwp_skip ?_ | refine vwp_exit ?_ | refine vwp_ret ?_ | refine v_cond ?_ | simp only [vm, ite_true, ite_false, eq_self, reduceIte, Nat.reduceEqDiff, Option.map] | refine And.intro (by omega) ?_))
  refine s_mk (n := a.length) (m := a.length) (by simp only [vm, ite_true, ite_false, eq_self, reduceIte, Nat.reduceEqDiff, Option.map]) (by simp only [vm, ite_true, ite_false, eq_self, reduceIte, Nat.reduceEqDiff, Option.map]) (Nat.le_refl _) (by omega) ?_
  (repeat (first | refine v_reg ?_ | refine v_last ?_ | refine vwp_seq ?_ | refine vwp_block ?_ | refine vwp_skip ?_ | refine vwp_exit ?_ | refine vwp_ret ?_ | refine v_cond ?_ | simp only [vm, ite_true, ite_false, eq_self, reduceIte, Nat.reduceEqDiff, Option.map] | refine And.intro (by omega) ?_))
  refine v_loop (fun S => ∃ w, w.length = a.length ∧ Lim 4294967296 w ∧ val 4294967296 w = val 4294967296 a - val 4294967296 b ∧ S.ρ 5 = .buf c 0 a.length (some a.length) 1 ∧ S.σ = supd noBlk c (nblk w) ∧ c + 1 ≤ S.c) ?_ ?_
  · refine vwp_loop (fun k S => ∃ i w o, k = a.length - i ∧ i ≤ a.length ∧ w.length = i ∧ Lim 4294967296 w ∧ o ≤ 1 ∧ val 4294967296 w + val 4294967296 (b.take i) = val 4294967296 (a.take i) + 4294967296 ^ i * o ∧ S.ρ 0 = nats t a ∧ S.ρ 1 = nats u b ∧ S.ρ 13 = iv (a.length : Int) ∧ S.ρ 6 = nv o ∧ S.ρ 14 = iv (i : Int) ∧ S.ρ 5 = .buf c 0 a.length (some a.length) 1 ∧ S.σ = supd noBlk c (nblk (w ++ List.replicate (a.length - i) 0)) ∧ c + 1 ≤ S.c) a.length ?_ ?_
    · refine ⟨0, [], 0, by omega, by omega, ?_⟩
      simp only [vm, ite_true, ite_false, eq_self, reduceIte, Nat.reduceEqDiff, Option.map]
      (repeat' apply And.intro) <;> first | rfl | omega | assumption | exact Lim.nil | (simp [val]; done)
    rintro k ⟨ρ2, σ, c4⟩ ⟨i, w, o, hk, hi, hw, hlw, ho, hinv, h0, h1, h13, h6, h14, h5, hσ, hc4⟩
    dsimp only at h0 h1 h13 h6 h14 h5 hσ hc4
    subst hσ
    by_cases g : (i : Int) < a.length
    · have hi' : i < a.length := by omega
      have hxi := ha.getD (i := i) (by decide)
      have hyi := hb.getD (i := i) (by decide)
      have hax := val_take' 4294967296 a i
      have hbx := val_take' 4294967296 b i
      have hlen : (w ++ List.replicate (a.length - i) 0).length = a.length := by simp; omega
      have hset : ∀ v, (w ++ List.replicate (a.length - i) 0).set i v = (w ++ [v]) ++ List.replicate (a.length - (i + 1)) 0 := fun v => by
        have := set_fill w (a.length - (i + 1)) v
        rw [hw] at this
        rw [show a.length - i = a.length - (i + 1) + 1 by omega, this]
      (repeat (first | refine v_reg ?_ | refine v_last ?_ | refine vwp_seq ?_ | refine vwp_block ?_ | refine vwp_skip ?_ | refine vwp_exit ?_ | refine vwp_ret ?_ | refine v_cond ?_ | simp only [vm, ite_true, ite_false, eq_self, reduceIte, Nat.reduceEqDiff, Option.map, h0, h1, h13, h6, h14, h5, g] | refine And.intro (by omega) ?_))
      refine s_call (at_spec u b i c4 (by omega)) (by simp only [vm, ite_true, ite_false, eq_self, reduceIte, Nat.reduceEqDiff, Option.map, List.map, h1, h14]) ?_
      rintro v c5 hc5 rfl
      generalize a.getD i 0 = x at *
      generalize b.getD i 0 = y at *
      obtain ⟨m1, m2, m3, m4⟩ := sub_m1 hxi hyi ho
      obtain ⟨d1, d2, d3⟩ := sub_digit hxi hyi ho rfl
      (repeat (first | refine v_reg ?_ | refine v_last ?_ | refine vwp_seq ?_ | refine vwp_block ?_ | refine vwp_skip ?_ | refine vwp_exit ?_ | refine vwp_ret ?_ | refine v_cond ?_ | simp only [vm, ite_true, ite_false, eq_self, reduceIte, Nat.reduceEqDiff, Option.map, h0, h1, h13, h6, h14, h5, hlen, hset, m1, m2, m3, m4] | refine And.intro (by omega) ?_))
      have key := sub_step (b := 4294967296) hw hinv d1
      rw [← hax, ← hbx] at key
      generalize 1 - (x + 4294967296 - y - o) / 4294967296 = o' at *
      generalize (x + 4294967296 - y - o) % 4294967296 = d at *
      refine ⟨a.length - (i + 1), by omega, i + 1, w ++ [d], o', ?_⟩
      (repeat' apply And.intro) <;> first | rfl | exact key | exact lim_snoc hlw d3 | (simp [hw]; done) | omega | assumption
    · have hi' : i = a.length := by omega
      subst hi'
      (repeat (first | refine v_reg ?_ | refine v_last ?_ | refine vwp_seq ?_ | refine vwp_block ?_ | refine vwp_skip ?_ | refine vwp_exit ?_ | refine vwp_ret ?_ | refine v_cond ?_ | simp only [vm, ite_true, ite_false, eq_self, reduceIte, Nat.reduceEqDiff, Option.map, h0, h1, h13, h6, h14, h5, g] | refine And.intro (by omega) ?_))
      rw [List.take_of_length_le (l := a) (by omega), List.take_of_length_le (l := b) (by omega)] at hinv
      refine ⟨w, ?_⟩
      have e0 : w ++ List.replicate (a.length - a.length) 0 = w := by simp
      rw [e0]
      have hwl := val_lt hlw
      rw [hw] at hwl
      have hc0 : o = 0 := by
        rcases Nat.eq_zero_or_pos o with h | h
        · exact h
        · have : o = 1 := by omega
          rw [this, Nat.mul_one] at hinv
          omega
      rw [hc0, Nat.mul_zero, Nat.add_zero] at hinv
      (repeat' apply And.intro) <;> first | rfl | omega | assumption
  rintro ⟨ρ3, σ, c5⟩ ⟨w, hw, hlw, hvw, h5, hσ, hc5⟩
  dsimp only at h5 hσ hc5
  subst hσ
  refine v_freeze 5 (t := c) (off := 0) (n := a.length) (cap := some a.length) (l := w) (by simp only [vm, ite_true, ite_false, eq_self, reduceIte, Nat.reduceEqDiff, Option.map, h5]) (by simp only [vm, ite_true, ite_false, eq_self, reduceIte, Nat.reduceEqDiff, Option.map]) (by omega) (by omega) ?_
  rw [List.drop_zero, show w.take a.length = w from List.take_of_length_le (by omega)]
  (repeat (first | refine v_reg ?_ | refine v_last ?_ | refine vwp_seq ?_ | refine vwp_block ?_ | refine vwp_skip ?_ | refine vwp_exit ?_ | refine vwp_ret ?_ | refine v_cond ?_ | simp only [vm, ite_true, ite_false, eq_self, reduceIte, Nat.reduceEqDiff, Option.map] | refine And.intro (by omega) ?_))
  refine s_call (norm32_spec (.id c) w c5 hlw (by omega)) (by simp only [vm, ite_true, ite_false, eq_self, reduceIte, Nat.reduceEqDiff, Option.map, List.map]) ?_
  rintro v c6 hc6 rfl
  rw [hvw]
  (repeat (first | refine v_reg ?_ | refine v_last ?_ | refine vwp_seq ?_ | refine vwp_block ?_ | refine vwp_skip ?_ | refine vwp_exit ?_ | refine vwp_ret ?_ | refine v_cond ?_ | simp only [vm, ite_true, ite_false, eq_self, reduceIte, Nat.reduceEqDiff, Option.map] | refine And.intro (by omega) ?_))
  exact ⟨c, rfl, by omega, by omega⟩

theorem shl32_low {x s : Nat} (hs : s ≤ 31) (hx : x < 4294967296) : x * 2 ^ s % 18446744073709551616 = x * 2 ^ s ∧ x * 2 ^ s % 4294967296 + 2 ^ s ≤ 4294967296 ∧ x * 2 ^ s / 4294967296 < 2 ^ s ∧ x * 2 ^ s / 4294967296 % 18446744073709551616 = x * 2 ^ s / 4294967296 ∧ 2 ^ s ≤ 2147483648 := by
  have h31 : 2 ^ s ≤ 2 ^ 31 := Nat.pow_le_pow_right (by decide) hs
  have hp : 0 < 2 ^ s := Nat.two_pow_pos s
  have hlt : x * 2 ^ s < 4294967296 * 2 ^ s := Nat.mul_lt_mul_of_pos_right hx hp
  have h32 : 4294967296 = 2 ^ (32 - s) * 2 ^ s := by rw [← Nat.pow_add, show 32 - s + s = 32 by omega]
  have hlow : x * 2 ^ s % 4294967296 + 2 ^ s ≤ 4294967296 := by
    have e : x * 2 ^ s % 4294967296 = (x % 2 ^ (32 - s)) * 2 ^ s := by rw [h32, Nat.mul_mod_mul_right]
    rw [e, ← Nat.succ_mul, h32]
    exact Nat.mul_le_mul_right _ (Nat.mod_lt _ (Nat.two_pow_pos _))
  have hdiv : x * 2 ^ s / 4294967296 < 2 ^ s := Nat.div_lt_of_lt_mul hlt
  have h1 : x * 2 ^ s < 18446744073709551616 := by
    have : 4294967296 * 2 ^ s ≤ 4294967296 * 2 ^ 31 := Nat.mul_le_mul_left _ h31
    omega
  exact ⟨Nat.mod_eq_of_lt h1, hlow, hdiv, Nat.mod_eq_of_lt (by omega), by omega⟩

theorem shl32_spec (t : Tok) (a : List Nat) (n c : Nat) (ha : Lim 4294967296 a) (hna : a.length ≤ 1099511627776) (hn : n ≤ 1099511627776) :
    VSpec Try.prog F.surdref01_Shl c [nats t a, iv n] (fun r c' => (a = [] ∧ r = nil1) ∨ ∃ i, r = nats (.id i) (digs 4294967296 (val 4294967296 a * 2 ^ n)) ∧ c ≤ i ∧ i < c') := by
  refine spec_mk hm E.surdref01_Shl B.surdref01_Shl K.surdref01_Shl Q.surdref01_Shl (by rw [N.surdref01_Shl]; simp) ?_
  unfold C.surdref01_Shl R.surdref01_Shl
  by_cases g0 : (a.length : Int) = 0
  · (repeat (first | refine v_reg ?_ | refine v_last ?_ | refine vwp_seq ?_ | refine vwp_block ?_ | refine vwp_skip ?_ | refine vwp_exit ?_ | refine vwp_ret ?_ | refine v_cond ?_ | simp only [vm, ite_true, ite_false, eq_self, reduceIte, Nat.reduceEqDiff, Option.map, g0] | refine And.intro (by omega) ?_))
    exact .inl (List.eq_nil_of_length_eq_zero (by omega))
  obtain ⟨q, hq⟩ : ∃ q, q = n / 32 := ⟨_, rfl⟩
  obtain ⟨s, hs⟩ : ∃ s, s = n % 32 := ⟨_, rfl⟩
  have hs31 : s ≤ 31 := by omega
  have eq1 : (n : Int) / 32 = (q : Int) := by omega
  have es1 : (n : Int) % 32 = (s : Int) := by omega
  have el : (a.length : Int) + (q : Int) + 1 = ((q + a.length + 1 : Nat) : Int) := by omega
  (repeat (first | refine v_reg ?_ | refine v_last ?_ | refine vwp_seq ?_ | refine vwp_block ?_ | refine vwp_skip ?_ | refine vwp_exit ?_ | refine vwp_ret ?_ | refine v_cond ?_ | simp only [vm, ite_true, ite_false, eq_self, reduceIte, Nat.reduceEqDiff, Option.map, g0, eq1, el] | refine And.intro (by omega) ?_))
  refine s_mk (n := q + a.length + 1) (m := q + a.length + 1) (by simp only [vm, ite_true, ite_false, eq_self, reduceIte, Nat.reduceEqDiff, Option.map]) (by simp only [vm, ite_true, ite_false, eq_self, reduceIte, Nat.reduceEqDiff, Option.map]) (Nat.le_refl _) (by omega) ?_
  (repeat (first | refine v_reg ?_ | refine v_last ?_ | refine vwp_seq ?_ | refine vwp_block ?_ | refine vwp_skip ?_ | refine vwp_exit ?_ | refine vwp_ret ?_ | refine v_cond ?_ | simp only [vm, ite_true, ite_false, eq_self, reduceIte, Nat.reduceEqDiff, Option.map, es1] | refine And.intro (by omega) ?_))
  refine v_loop (fun S => ∃ w, w.length = q + a.length + 1 ∧ Lim 4294967296 w ∧ val 4294967296 w = val 4294967296 a * 2 ^ n ∧ S.ρ 5 = .buf c 0 (q + a.length + 1) (some (q + a.length + 1)) 1 ∧ S.σ = supd noBlk c (nblk w) ∧ c + 1 ≤ S.c) ?_ ?_
  · refine vwp_loop (fun k S => ∃ i w o, k = a.length - i ∧ i ≤ a.length ∧ w.length = i ∧ Lim 4294967296 w ∧ o < 2 ^ s ∧ val 4294967296 (w ++ [o]) = val 4294967296 (a.take i) * 2 ^ s ∧ S.ρ 1 = iv (n : Int) ∧ S.ρ 6 = iv (s : Int) ∧ S.ρ 21 = nats t a ∧ S.ρ 22 = iv (a.length : Int) ∧ S.ρ 23 = iv (i : Int) ∧ S.ρ 5 = .buf c 0 (q + a.length + 1) (some (q + a.length + 1)) 1 ∧ S.σ = supd noBlk c (nblk ((List.replicate q 0 ++ w) ++ o :: List.replicate (a.length - i) 0)) ∧ c + 1 ≤ S.c) a.length ?_ ?_
    · refine ⟨0, [], 0, by omega, by omega, ?_⟩
      simp only [vm, ite_true, ite_false, eq_self, reduceIte, Nat.reduceEqDiff, Option.map]
      have e0 : List.replicate (q + a.length + 1) 0 = (List.replicate q 0 ++ []) ++ 0 :: List.replicate (a.length - 0) 0 := by
        rw [List.append_nil, ← List.replicate_succ, List.replicate_append_replicate]; rfl
      rw [e0]
      (repeat' apply And.intro) <;> first | rfl | omega | assumption | exact Lim.nil | exact Nat.two_pow_pos s | (simp [val]; done)
    rintro k ⟨ρ2, σ, c4⟩ ⟨i, w, o, hk, hi, hw, hlw, ho, hinv, h1, h6, h21, h22, h23, h5, hσ, hc4⟩
    dsimp only at h1 h6 h21 h22 h23 h5 hσ hc4
    subst hσ
    by_cases g : (i : Int) < a.length
    · have hi' : i < a.length := by omega
      have hxi := ha.getD (i := i) (by decide)
      have hax := val_take' 4294967296 a i
      obtain ⟨m1, m2, m3, m4, m5⟩ := shl32_low hs31 hxi
      have hql : (List.replicate q 0 ++ w).length = i + q := by simp [hw]; omega
      have eiq : ((i : Int) + (q : Int)).toNat = i + q := by omega
      have eiq1 : ((i : Int) + (q : Int) + 1).toNat = i + q + 1 := by omega
      have hlen : ((List.replicate q 0 ++ w) ++ o :: List.replicate (a.length - i) 0).length = q + a.length + 1 := by simp [hw]; omega
      have hget : ((List.replicate q 0 ++ w) ++ o :: List.replicate (a.length - i) 0).getD (i + q) 0 = o := by rw [← hql]; exact getD_at _ _ _
      have hset1 : ∀ v, ((List.replicate q 0 ++ w) ++ o :: List.replicate (a.length - i) 0).set (i + q) v = (List.replicate q 0 ++ w) ++ v :: List.replicate (a.length - i) 0 := fun v => by rw [← hql]; exact set_at _ _ _ _
      have hset2 : ∀ v v', ((List.replicate q 0 ++ w) ++ v :: List.replicate (a.length - i) 0).set (i + q + 1) v' = (List.replicate q 0 ++ (w ++ [v])) ++ v' :: List.replicate (a.length - (i + 1)) 0 := fun v v' => by
        have e : (List.replicate q 0 ++ w) ++ v :: List.replicate (a.length - i) 0 = (List.replicate q 0 ++ (w ++ [v])) ++ 0 :: List.replicate (a.length - (i + 1)) 0 := by
          rw [show a.length - i = a.length - (i + 1) + 1 by omega, List.replicate_succ]; simp
        rw [e, show i + q + 1 = (List.replicate q 0 ++ (w ++ [v])).length by simp [hw]; omega]
        exact set_at _ _ _ _
      have hlen2 : ∀ v, ((List.replicate q 0 ++ w) ++ v :: List.replicate (a.length - i) 0).length = q + a.length + 1 := fun v => by simp [hw]; omega
      have emin : min s 64 = s := by omega
      have hod : (o + a.getD i 0 * 2 ^ s % 4294967296) % 18446744073709551616 = o + a.getD i 0 * 2 ^ s % 4294967296 := Nat.mod_eq_of_lt (by omega)
      have hstep := shl_step (b := 4294967296) (lo := a.getD i 0 * 2 ^ s % 4294967296) (hi := a.getD i 0 * 2 ^ s / 4294967296) (x := a.getD i 0) (P := 2 ^ s) hw hinv (by omega)
      (repeat (first | refine v_reg ?_ | refine v_last ?_ | refine vwp_seq ?_ | refine vwp_block ?_ | refine vwp_skip ?_ | refine vwp_exit ?_ | refine vwp_ret ?_ | refine v_cond ?_ | simp only [vm, ite_true, ite_false, eq_self, reduceIte, Nat.reduceEqDiff, Option.map, h1, h6, h21, h22, h23, h5, g, eq1, eiq, eiq1, hlen, hlen2, hget, hset1, hset2, emin, m1, m4, hod] | refine And.intro (by omega) ?_))
      refine ⟨a.length - (i + 1), by omega, i + 1, w ++ [o + a.getD i 0 * 2 ^ s % 4294967296], a.getD i 0 * 2 ^ s / 4294967296, ?_⟩
      have key : val 4294967296 ((w ++ [o + a.getD i 0 * 2 ^ s % 4294967296]) ++ [a.getD i 0 * 2 ^ s / 4294967296]) = val 4294967296 (a.take (i + 1)) * 2 ^ s := by
        rw [hstep, hax, Nat.add_mul, Nat.mul_assoc]
      have hlw2 := lim_snoc (v := o + a.getD i 0 * 2 ^ s % 4294967296) hlw (by omega)
      (repeat' apply And.intro) <;> first | rfl | exact key | exact hlw2 | exact m3 | (simp [hw]; done) | omega | assumption
    · have hi' : i = a.length := by omega
      subst hi'
      (repeat (first | refine v_reg ?_ | refine v_last ?_ | refine vwp_seq ?_ | refine vwp_block ?_ | refine vwp_skip ?_ | refine vwp_exit ?_ | refine vwp_ret ?_ | refine v_cond ?_ | simp only [vm, ite_true, ite_false, eq_self, reduceIte, Nat.reduceEqDiff, Option.map, h1, h6, h21, h22, h23, h5, g] | refine And.intro (by omega) ?_))
      rw [List.take_length] at hinv
      refine ⟨List.replicate q 0 ++ (w ++ [o]), ?_⟩
      have hwl : Lim 4294967296 (w ++ [o]) := lim_snoc hlw (by have := Nat.pow_le_pow_right (n := 2) (by decide) hs31; omega)
      have key : val 4294967296 (List.replicate q 0 ++ (w ++ [o])) = val 4294967296 a * 2 ^ n := by
        rw [val_zeros, hinv, pow32, Nat.mul_left_comm, ← Nat.pow_add, show 32 * q + s = n by omega]
      have e0 : (List.replicate q 0 ++ w) ++ o :: List.replicate (a.length - a.length) 0 = List.replicate q 0 ++ (w ++ [o]) := by simp
      rw [e0]
      (repeat' apply And.intro) <;> first | rfl | omega | assumption | exact key | exact (Lim.replicate (by decide)).append hwl | (simp [hw]; omega)
  rintro ⟨ρ3, σ, c5⟩ ⟨w, hw, hlw, hvw, h5, hσ, hc5⟩
  dsimp only at h5 hσ hc5
  subst hσ
  refine v_freeze 5 (t := c) (off := 0) (n := q + a.length + 1) (cap := some (q + a.length + 1)) (l := w) (by simp only [vm, ite_true, ite_false, eq_self, reduceIte, Nat.reduceEqDiff, Option.map, h5]) (by simp only [vm, ite_true, ite_false, eq_self, reduceIte, Nat.reduceEqDiff, Option.map]) (by omega) (by omega) ?_
  rw [List.drop_zero, show w.take (q + a.length + 1) = w from List.take_of_length_le (by omega)]
  (repeat (first | refine v_reg ?_ | refine v_last ?_ | refine vwp_seq ?_ | refine vwp_block ?_ | refine vwp_skip ?_ | refine vwp_exit ?_ | refine vwp_ret ?_ | refine v_cond ?_ | simp only [vm, ite_true, ite_false, eq_self, reduceIte, Nat.reduceEqDiff, Option.map] | refine And.intro (by omega) ?_))
  refine s_call (norm32_spec (.id c) w c5 hlw (by omega)) (by simp only [vm, ite_true, ite_false, eq_self, reduceIte, Nat.reduceEqDiff, Option.map, List.map]) ?_
  rintro v c6 hc6 rfl
  rw [hvw]
  (repeat (first | refine v_reg ?_ | refine v_last ?_ | refine vwp_seq ?_ | refine vwp_block ?_ | refine vwp_skip ?_ | refine vwp_exit ?_ | refine vwp_ret ?_ | refine v_cond ?_ | simp only [vm, ite_true, ite_false, eq_self, reduceIte, Nat.reduceEqDiff, Option.map] | refine And.intro (by omega) ?_))
  exact .inr ⟨c, rfl, by omega, by omega⟩
end Go.Proofs.Ytladcfeibpddeab
set_option linter.unusedSimpArgs false
set_option linter.unusedVariables false
set_option maxRecDepth 100000
set_option maxHeartbeats 8000000
namespace Go.Proofs.Ytladcfeibpddeab
open Go.VM

theorem cmpI_le {m n : Nat} : cmpI m n ≤ 0 ↔ m ≤ n := by
  unfold cmpI
  split
  · constructor <;> intros <;> omega
  · split
    · constructor <;> intros <;> omega
    · constructor <;> intros <;> omega
theorem cmpI_pos {m n : Nat} : 0 < cmpI m n ↔ n < m := by
  unfold cmpI
  split
  · constructor <;> intros <;> omega
  · split
    · constructor <;> intros <;> omega
    · constructor <;> intros <;> omega
theorem cmpI_lt {m n : Nat} : cmpI m n < 0 ↔ m < n := by
  unfold cmpI
  split
  · constructor <;> intros <;> omega
  · split
    · constructor <;> intros <;> omega
    · constructor <;> intros <;> omega
theorem cmpI_zero {m n : Nat} : cmpI m n = 0 ↔ m = n := by
  unfold cmpI
  split
  · constructor <;> intros <;> omega
  · split
    · constructor <;> intros <;> omega
    · constructor <;> intros <;> omega
theorem lenR (t : Tok) (n c : Nat) (hn : bl n ≤ 68719476736) : VSpec Try.prog F.surdref01_Num_Len c [nats t (digs 4294967296 n)] (fun r _ => r = iv (bl n)) :=
  len_spec t n c (Nat.le_trans (len32_bl (k := 2147483648) (by omega)) (by decide))
theorem subR (t u : Tok) (m n c : Nat) (hm : bl m ≤ 68719476736) (hle : n ≤ m) : VSpec Try.prog F.surdref01_Sub c [nats t (digs 4294967296 m), nats u (digs 4294967296 n)] (fun r c' => RefR c c' (m - n) r) := by
  have h := sub32_spec t u (digs 4294967296 m) (digs 4294967296 n) c (lim_digs two32 m) (lim_digs two32 n) (Nat.le_trans (len32_bl (k := 2147483648) (by omega)) (by decide)) (le_len two32 hle) (by rw [val_digs two32, val_digs two32]; exact hle)
  rw [val_digs two32, val_digs two32] at h
  exact h
theorem oneR (c : Nat) : VSpec Try.prog F.surdref01_Int c [iv 1] (fun r c' => RefR c c' 1 r) := int_spec 1 c (by decide)
theorem intR (n c : Nat) (hn : n < 9223372036854775808) : VSpec Try.prog F.surdref01_Int c [iv n] (fun r c' => RefR c c' n r) := int_spec n c hn
theorem shlR (t : Tok) (m n c : Nat) (hm : bl m ≤ 68719476736) (hm0 : 0 < m) (hn : n ≤ 1099511627776) : VSpec Try.prog F.surdref01_Shl c [nats t (digs 4294967296 m), iv n] (fun r c' => RefR c c' (m * 2 ^ n) r) := by
  have h := shl32_spec t (digs 4294967296 m) n c (lim_digs two32 m) (Nat.le_trans (len32_bl (k := 2147483648) (by omega)) (by decide)) hn
  rw [val_digs two32] at h
  refine h.mono ?_
  rintro r c' (⟨h1, _⟩ | h1)
  · exact absurd ((digs_eq_nil two32).1 h1) (by omega)
  · exact h1

theorem pow_small {A k : Nat} (hk : 1 ≤ k) (h : A ≤ 1) : A ^ k = A := by
  rcases Nat.eq_zero_or_pos A with e | e
  · rw [e]; exact Nat.zero_pow (by omega)
  · have : A = 1 := by omega
    rw [this, Nat.one_pow]
theorem pow_over {A k M : Nat} (hA : 2 ≤ A) (h : bl M < k) : M < A ^ k :=
  Nat.lt_of_lt_of_le (lt_of_bl (Nat.le_of_lt h)) (Nat.pow_le_pow_left hA k)

theorem told04_spec (t u : Tok) (m n c : Nat) (hm1 : bl m ≤ 67108864) (hn1 : bl n ≤ 67108864) :
    VSpec Try.prog F.surdref04_told c [nats t (digs 4294967296 m), nats u (digs 4294967296 n)] (fun r c' => r = .tup [nats t (digs 4294967296 m), nats u (digs 4294967296 n), iv 0]) := by
  refine spec_mk hm E.surdref04_told B.surdref04_told K.surdref04_told Q.surdref04_told (by rw [N.surdref04_told]; simp) ?_
  unfold C.surdref04_told R.surdref04_told
  (repeat (first | refine v_reg ?_ | refine v_last ?_ | refine vwp_seq ?_ | refine vwp_block ?_ | refine vwp_skip ?_ | refine vwp_exit ?_ | refine vwp_ret ?_ | refine v_cond ?_ | simp only [vm, ite_true, ite_false, eq_self, reduceIte, Nat.reduceEqDiff, Option.map] | refine And.intro (by omega) ?_))
  refine s_call (lenR t m c (by omega)) (by simp only [vm, ite_true, ite_false, eq_self, reduceIte, Nat.reduceEqDiff, Option.map, List.map]) ?_
  rintro v c1 hc1 rfl
  have g1 : ¬ (67108864 : Int) < (bl m : Int) := by omega
  (repeat (first | refine v_reg ?_ | refine v_last ?_ | refine vwp_seq ?_ | refine vwp_block ?_ | refine vwp_skip ?_ | refine vwp_exit ?_ | refine vwp_ret ?_ | refine v_cond ?_ | simp only [vm, ite_true, ite_false, eq_self, reduceIte, Nat.reduceEqDiff, Option.map, g1] | refine And.intro (by omega) ?_))
  refine s_call (lenR u n c1 (by omega)) (by simp only [vm, ite_true, ite_false, eq_self, reduceIte, Nat.reduceEqDiff, Option.map, List.map]) ?_
  rintro v c2 hc2 rfl
  have g2 : ¬ (67108864 : Int) < (bl n : Int) := by omega
  (repeat (first | refine v_reg ?_ | refine v_last ?_ | refine vwp_seq ?_ | refine vwp_block ?_ | refine vwp_skip ?_ | refine vwp_exit ?_ | refine vwp_ret ?_ | refine v_cond ?_ | simp only [vm, ite_true, ite_false, eq_self, reduceIte, Nat.reduceEqDiff, Option.map, g2] | refine And.intro (by omega) ?_))
  omega

end Go.Proofs.Ytladcfeibpddeab
set_option linter.unusedSimpArgs false
set_option linter.unusedVariables false
set_option maxRecDepth 100000
set_option maxHeartbeats 8000000
namespace Go.Proofs.Ytladcfeibpddeab
open Go.VM Go.RowKit

/-! ### answers that can't be -/
theorem rep_nil_len {w : World} {M : Nat → Prop} {μ : Nat → Nat} {c : Nat} {l : List Nat} {v : Value} (h : Rep w M μ c (nats .nil l) v) : l = [] := by
  generalize e : nats .nil l = x at h
  cases h with
  | nil tk sz =>
    simp only [nats, V.sl.injEq] at e
    exact List.map_eq_nil_iff.1 e.2.2
  | sl tk sz n cap a l' vs ht hn hc hs hMb hcap h1 hl =>
    simp only [nats, V.sl.injEq] at e
    obtain ⟨rfl, rfl, rfl⟩ := e
    have h0 : cap * 1 = 0 := ht
    have : (l.map nv).length = 0 := by omega
    exact List.map_eq_nil_iff.1 (List.eq_nil_of_length_eq_zero this)
  | any | lit | agg | tup => cases e
/-- no value is this one -/
def Void (r : V) : Prop := ∀ w M μ c v, ¬ RepE w M μ c r v
theorem void_tup {l : List V} {x : List Nat} (hm0 : nats .nil x ∈ l) (hx : x ≠ []) : Void (.tup l) := by
  intro w M μ c v h
  have h : Rep w M μ c (.tup l) v := h
  cases h with
  | tup _ cs hn hl =>
    obtain ⟨j, hj⟩ := List.getElem?_of_mem hm0
    have hjl := (List.getElem?_eq_some_iff.1 hj).1
    have := hl j _ _ hj (Array.getElem?_eq_getElem (by omega))
    exact hx (rep_nil_len this)
theorem void_one {x : List Nat} (hx : x ≠ []) : Void (nats .nil x) := fun w M μ c v h => hx (rep_nil_len h)
theorem VSpec.clean {P : Program} {f : FuncId} {c : Nat} {xs : List V} {Q1 Q2 : V → Nat → Prop} (h : VSpec P f c xs Q1) (hq : ∀ r c', c ≤ c' → Q1 r c' → Q2 r c' ∨ (Void r ∧ ∃ r2 c2, c ≤ c2 ∧ Q2 r2 c2)) : VSpec P f c xs Q2 := by
  obtain ⟨r, c', h0, h1, h2⟩ := h
  rcases hq r c' h0 h2 with h | ⟨hv, r2, c2, h3, h4⟩
  · exact ⟨r, c', h0, h1, h⟩
  · refine ⟨r2, c2, h3, fun w Φ μ vs hm0 hn ha => (h1 w Φ μ vs hm0 hn ha).mono ?_, h4⟩
    rintro e w' ⟨v, μ', _, _, hr⟩
    exact absurd hr (hv _ _ _ _ _)

/-- nothing, or a row in memory of its own -/
def Row1 (lo hi : Nat) (t : Tok) (l : List Nat) : Prop := (t = .nil ∧ l = []) ∨ ∃ i, t = .id i ∧ lo ≤ i ∧ i < hi
theorem Row1.mono {a b c d : Nat} {t : Tok} {l : List Nat} (h : Row1 a b t l) (h1 : c ≤ a) (h2 : b ≤ d) : Row1 c d t l := by
  rcases h with h | ⟨i, h, h3, h4⟩
  · exact .inl h
  · exact .inr ⟨i, h, by omega, by omega⟩
theorem Row1.of {a b : Nat} {t : Tok} {l : List Nat} (h : Tk a b t) (hl : t = .nil → l = []) : Row1 a b t l := by
  rcases h with rfl | ⟨i, rfl, h⟩
  · exact .inl ⟨rfl, hl rfl⟩
  · exact .inr ⟨i, rfl, h⟩
theorem tk_nil_or {a b : Nat} {t : Tok} (l : List Nat) (h : Tk a b t) : Row1 a b t l ∨ (t = .nil ∧ l ≠ []) := by
  by_cases e : t = .nil ∧ l ≠ []
  · exact .inr e
  · refine .inl (.of h fun e1 => ?_)
    cases l with
    | nil => rfl
    | cons x r => exact absurd ⟨e1, by simp⟩ e

theorem nodup_nodupB : ∀ {l : List Nat}, l.Nodup → nodupB l = true
  | [], _ => rfl
  | a :: r, h => by
    obtain ⟨h1, h2⟩ := List.nodup_cons.1 h
    simp only [nodupB, Bool.and_eq_true, Bool.not_eq_true', List.contains_eq_mem, decide_eq_false_iff_not]
    exact ⟨h1, nodup_nodupB h2⟩

abbrev rowsV (ps : List (Tok × List Nat)) : List V := ps.map fun p => nats p.1 p.2
theorem mem_ids {ps : List (Tok × List Nat)} {i : Nat} (h : i ∈ ids (rowsV ps)) : ∃ p ∈ ps, p.1 = .id i := by
  obtain ⟨x, hx, e⟩ := List.mem_filterMap.1 h
  obtain ⟨p, hp, rfl⟩ := List.mem_map.1 hx
  obtain ⟨t, l⟩ := p
  cases t with
  | id j => simp at e; subst e; exact ⟨_, hp, rfl⟩
  | _ => simp at e
theorem ids_nodup : ∀ {ps : List (Tok × List Nat)}, ps.Pairwise (fun p q => Apt p.1 q.1) → (ids (rowsV ps)).Nodup
  | [], _ => List.nodup_nil
  | (t, l) :: ps, h => by
    obtain ⟨h1, h2⟩ := List.pairwise_cons.1 h
    have ih := ids_nodup h2
    cases t with
    | id j =>
      refine List.nodup_cons.2 ⟨fun hm0 => ?_, ih⟩
      obtain ⟨q, hq, e⟩ := mem_ids hm0
      exact h1 q hq j rfl e
    | nil => exact ih
    | unk => exact ih
    | sub j => exact ih
theorem ownable_of {c0 lo tL : Nat} {ps : List (Tok × List Nat)} (hc : c0 ≤ lo) (h0 : 0 < ps.length) (h1 : ps.length ≤ 1000000) (hp : ∀ p ∈ ps, Row1 lo tL p.1 p.2 ∧ p.2.length ≤ 4398046511104) (hl : lo ≤ tL) (ha : ps.Pairwise (fun p q => Apt p.1 q.1)) : ownable c0 tL (rowsV ps) = true := by
  simp only [ownable, Bool.and_eq_true, decide_eq_true_eq, List.all_eq_true]
  have hid : ∀ i ∈ ids (rowsV ps), lo ≤ i ∧ i < tL := fun i hi => by
    obtain ⟨p, hpm, e⟩ := mem_ids hi
    rcases (hp p hpm).1 with ⟨e1, _⟩ | ⟨j, e1, h3, h4⟩
    · rw [e] at e1; cases e1
    · rw [e] at e1; cases e1; exact ⟨h3, h4⟩
  refine ⟨⟨⟨⟨by simpa using h0, by simpa using h1⟩, fun x hx => ?_⟩, fun t ht => ?_⟩, nodup_nodupB (List.nodup_cons.2 ⟨fun h => ?_, ids_nodup ha⟩)⟩
  · obtain ⟨p, hpm, rfl⟩ := List.mem_map.1 hx
    obtain ⟨t, l⟩ := p
    obtain ⟨h2, h3⟩ := hp _ hpm
    rcases h2 with ⟨e1, e2⟩ | ⟨i, e1, _⟩
    · simp only at e1 e2; subst e1 e2; rfl
    · simp only at e1 h3; subst e1
      simp [rowable, h3]
  · rcases List.mem_cons.1 ht with rfl | h
    · omega
    · have := hid t h; omega
  · have := hid tL h; omega

theorem thawL_lit (ts : List Nat) (v : Value) : V.thawL ts (.lit v) = .lit v := by
  unfold V.thawL
  rw [if_pos (List.all_eq_true.2 fun t _ => (show V.still t 4 (.lit v) = true from rfl))]
theorem thawL_nats {ts : List Nat} {t : Tok} {l : List Nat} (h : ∀ q ∈ ts, t.apart q = true) : V.thawL ts (nats t l) = nats t l := by
  unfold V.thawL
  rw [if_pos]
  refine List.all_eq_true.2 fun q hq => ?_
  simp only [V.still, Bool.and_eq_true, List.all_eq_true, List.mem_map]
  refine ⟨h q hq, ?_⟩
  rintro x ⟨n, _, rfl⟩
  rfl
theorem thawL_kn {lo tL : Nat} {ps : List (Tok × List Nat)} (hp : ∀ p ∈ ps, Row1 lo tL p.1 p.2 ∧ p.2.length ≤ 4398046511104) (hl : lo ≤ tL) {t : Tok} {l : List Nat} (h : Kn lo t) : V.thawL (tL :: ids (rowsV ps)) (nats t l) = nats t l := by
  refine thawL_nats fun q hq => ?_
  have hq : lo ≤ q := by
    rcases List.mem_cons.1 hq with rfl | h
    · exact hl
    · obtain ⟨p, hpm, e⟩ := mem_ids h
      rcases (hp p hpm).1 with ⟨e1, _⟩ | ⟨j, e1, h3, h4⟩
      · rw [e] at e1; cases e1
      · rw [e] at e1; cases e1; exact h3
  rcases h with rfl | ⟨i, rfl | rfl, hi⟩
  · rfl
  · exact beq_no (by omega)
  · exact beq_no (by omega)
theorem killed_own (ts : List Nat) (ρ : Nat → V) (j : Nat) : kill (some (.inr ts)) ρ j = (ρ j).thawL ts := rfl

section
variable {P : Program} {c0 : Nat} {ρ : Nat → V} {c i : Nat} {r : List VO} {K : VS → Prop}
/-- rows are given away (no buffer is live) -/
theorem s_own {f : FuncId} {x : X} {tL lo : Nat} {ps : List (Tok × List Nat)} (hf : OwnSpec P f) (hx : x.ev ρ = .sl (.id tL) 1 (rowsV ps)) (hc : c0 ≤ lo) (h0 : 0 < ps.length) (h1 : ps.length ≤ 1000000) (hp : ∀ p ∈ ps, Row1 lo tL p.1 p.2 ∧ p.2.length ≤ 4398046511104) (hl : lo ≤ tL) (ha : ps.Pairwise (fun p q => Apt p.1 q.1))
    (hk : wps P false c0 r ⟨upd (kill (some (.inr (tL :: ids (rowsV ps)))) ρ) i (bv true), noBlk, c⟩ K) : wps P false c0 (⟨some i, .call f [x], none⟩ :: r) ⟨ρ, noBlk, c⟩ K := by
  show opS P false c0 (.call f [x]) (some i) _ _
  refine ⟨_, _, _, _, .own rfl hf hx (ownable_of hc h0 h1 hp hl ha), ?_⟩
  have e : (fun t => if (tL :: ids (rowsV ps)).contains t = true then none else (noBlk t).map fun b => (⟨b.cells.map (V.thawL (tL :: ids (rowsV ps))), b.live⟩ : Blk)) = noBlk := by
    funext t
    split <;> rfl
  simp only [e]
  exact hk
variable {σ : Nat → Option Blk} {dr : Bool}
theorem s_rows1 {x : X} {p : Tok × List Nat} (h0 : x.ev ρ = nats p.1 p.2) (hk : wps P dr c0 r ⟨upd ρ i (.sl (.id c) 1 (rowsV [p])), σ, c + 1⟩ K) : wps P dr c0 (⟨some i, .bsl true 1 1 [.slice none 0 0] [(0, (1, x))], none⟩ :: r) ⟨ρ, σ, c⟩ K := by
  refine s_eff rfl (by intros; exact fun h => by cases h) (by intros; exact fun h => by cases h) ⟨_, _, _, none, .bsl (cs := rowsV [p]) ?_, hk⟩
  simp only [partsOf, List.map, h0]
  rfl
theorem s_rows2 {x y : X} {p q : Tok × List Nat} (h0 : x.ev ρ = nats p.1 p.2) (h1 : y.ev ρ = nats q.1 q.2) (hk : wps P dr c0 r ⟨upd ρ i (.sl (.id c) 1 (rowsV [p, q])), σ, c + 1⟩ K) : wps P dr c0 (⟨some i, .bsl true 1 2 [.slice none 0 0] [(0, (1, x)), (1, (1, y))], none⟩ :: r) ⟨ρ, σ, c⟩ K := by
  refine s_eff rfl (by intros; exact fun h => by cases h) (by intros; exact fun h => by cases h) ⟨_, _, _, none, .bsl (cs := rowsV [p, q]) ?_, hk⟩
  simp only [partsOf, List.map, h0, h1]
  rfl
theorem s_rows3 {x y z : X} {p q s : Tok × List Nat} (h0 : x.ev ρ = nats p.1 p.2) (h1 : y.ev ρ = nats q.1 q.2) (h2 : z.ev ρ = nats s.1 s.2) (hk : wps P dr c0 r ⟨upd ρ i (.sl (.id c) 1 (rowsV [p, q, s])), σ, c + 1⟩ K) : wps P dr c0 (⟨some i, .bsl true 1 3 [.slice none 0 0] [(0, (1, x)), (1, (1, y)), (2, (1, z))], none⟩ :: r) ⟨ρ, σ, c⟩ K := by
  refine s_eff rfl (by intros; exact fun h => by cases h) (by intros; exact fun h => by cases h) ⟨_, _, _, none, .bsl (cs := rowsV [p, q, s]) ?_, hk⟩
  simp only [partsOf, List.map, h0, h1, h2]
  rfl
end

/-- the answers of 'Root', in memory of their own -/
def RootO (c c' A0 k : Nat) (r : V) : Prop := (bl A0 ≤ 67108864 ∧ ∃ x t1 t2, IsRoot A0 k x ∧ r = .tup [nats t1 (digs 18446744073709551616 x), nats t2 (digs 18446744073709551616 (A0 - x ^ k)), iv 0] ∧ Row1 c c' t1 (digs 18446744073709551616 x) ∧ Row1 c c' t2 (digs 18446744073709551616 (A0 - x ^ k)) ∧ Apt t1 t2) ∨ (67108864 < bl A0 ∧ r = .tup [nil1, nil1, iv 3])
theorem apt_next (c : Nat) : Apt (.id c) (.id (c + 1)) := fun i h1 h2 => by cases h1; cases h2
theorem rootO_of {c c' A0 k : Nat} {r : V} (hc : c ≤ c') (h : RootS c c' A0 k r) : RootO c c' A0 k r ∨ (Void r ∧ ∃ r2 c2, c ≤ c2 ∧ RootO c c2 A0 k r2) := by
  rcases h with ⟨hb, x, t1, t2, hx, rfl, h1, h2, h3⟩ | h
  · have bad : Void (.tup [nats t1 (digs 18446744073709551616 x), nats t2 (digs 18446744073709551616 (A0 - x ^ k)), iv 0]) → Void (.tup [nats t1 (digs 18446744073709551616 x), nats t2 (digs 18446744073709551616 (A0 - x ^ k)), iv 0]) ∧ ∃ r2 c2, c ≤ c2 ∧ RootO c c2 A0 k r2 := fun hv =>
      ⟨hv, _, c + 2, by omega, .inl ⟨hb, x, .id c, .id (c + 1), hx, rfl, .inr ⟨c, rfl, by omega, by omega⟩, .inr ⟨c + 1, rfl, by omega, by omega⟩, apt_next c⟩⟩
    rcases tk_nil_or (digs 18446744073709551616 x) h1 with g1 | ⟨rfl, g1⟩
    · rcases tk_nil_or (digs 18446744073709551616 (A0 - x ^ k)) h2 with g2 | ⟨rfl, g2⟩
      · exact .inl (.inl ⟨hb, x, t1, t2, hx, rfl, g1, g2, h3⟩)
      · exact .inr (bad (void_tup (by simp) g2))
    · exact .inr (bad (void_tup (by simp) g1))
  · exact .inl (.inr h)
theorem root_specO (t : Tok) (a : List Nat) (k : Int) (c : Nat) (ha : Lim 18446744073709551616 a) (hna : a.length ≤ 1099511627776) (hk : k < 9223372036854775808) :
    VSpec Try.prog F.roots_Root c [nats t a, iv k] (fun r c' => (k < 1 → r = .tup [nil1, nil1, iv 40]) ∧ (1 ≤ k → RootO c c' (val 18446744073709551616 a) k.toNat r)) := by
  refine VSpec.clean (root_specS t a k c ha hna hk) fun r c' hc ⟨h1, h2⟩ => ?_
  by_cases g : k < 1
  · exact .inl ⟨h1, fun h => by omega⟩
  · rcases rootO_of hc (h2 (by omega)) with h | ⟨hv, r2, c2, h3, h4⟩
    · exact .inl ⟨h1, fun _ => h⟩
    · exact .inr ⟨hv, r2, c2, h3, fun h => by omega, fun _ => h4⟩
theorem sqrt_specO (t : Tok) (a : List Nat) (c : Nat) (ha : Lim 18446744073709551616 a) (hna : a.length ≤ 1099511627776) :
    VSpec Try.prog F.roots_Sqrt c [nats t a] (fun r c' => RootO c c' (val 18446744073709551616 a) 2 r) :=
  VSpec.clean (sqrt_specS t a c ha hna) fun r c' hc h => rootO_of hc h
end Go.Proofs.Ytladcfeibpddeab
set_option linter.unusedSimpArgs false
set_option linter.unusedVariables false
set_option maxRecDepth 100000
set_option maxHeartbeats 8000000
namespace Go.Proofs.Ytladcfeibpddeab
open Go.VM Go.RowKit

theorem killR_at (t : Nat) (ρ : Nat → V) (j : Nat) : kill (some (.inl t)) ρ j = killV t (ρ j) := rfl
theorem killR_sl (t : Nat) (tk : Tok) (l : List Nat) : killV t (nats tk l) = nats tk l := rfl
theorem killR_lit (t : Nat) (v : Value) : killV t (.lit v) = .lit v := rfl
theorem a_rows {t : Tok} {l : List V} {i : Int} : vixa 1 (.sl t 1 l) (iv i) = if 0 ≤ i ∧ i.toNat < l.length then some (.eptr l i.toNat) else none := by
  simp [vixa]
theorem d_rows {σ : Nat → Option Blk} {l : List V} {i : Nat} : vload σ none (.eptr l i) = l[i]? := rfl
/-! ### lists of ints -/
abbrev ivs (l : List Nat) : List V := l.map fun (n : Nat) => iv (n : Int)
abbrev ints (t : Tok) (l : List Nat) : V := .sl t 1 (ivs l)
theorem rep_nilG {w : World} {M : Nat → Prop} {μ : Nat → Nat} {c : Nat} {ls : List V} {v : Value} (h : Rep w M μ c (.sl .nil 1 ls) v) : ls = [] := by
  generalize e : V.sl .nil 1 ls = x at h
  cases h with
  | nil tk sz => simp only [V.sl.injEq] at e; exact e.2.2
  | sl tk sz n cap a l' vs ht hn hc hs hMb hcap h1 hl =>
    simp only [V.sl.injEq] at e
    obtain ⟨rfl, rfl, rfl⟩ := e
    have h0 : cap * 1 = 0 := ht
    exact List.eq_nil_of_length_eq_zero (by omega)
  | any | lit | agg | tup => cases e
theorem void_tupI {l : List V} {x : List Nat} (hm0 : ints .nil x ∈ l) (hx : x ≠ []) : Void (.tup l) := by
  intro w M μ c v h
  have h : Rep w M μ c (.tup l) v := h
  cases h with
  | tup _ cs hn hl =>
    obtain ⟨j, hj⟩ := List.getElem?_of_mem hm0
    have hjl := (List.getElem?_eq_some_iff.1 hj).1
    have := hl j _ _ hj (Array.getElem?_eq_getElem (by omega))
    exact hx (List.map_eq_nil_iff.1 (rep_nilG this))
theorem l_ints {t : Tok} {l : List Nat} : vlen (ints t l) = some (iv (l.length : Int)) := by simp [vlen]
theorem ivs_get {l : List Nat} {i : Nat} (h : i < l.length) : (ivs l)[i]? = some (iv ((l.getD i 0 : Nat) : Int)) := by
  rw [List.getElem?_map, List.getElem?_eq_getElem h, List.getD_eq_getElem?_getD, List.getElem?_eq_getElem h]
  rfl
theorem ivs_solid (l : List Nat) : (ivs l).map V.solid = ivs l := by rw [List.map_map]; rfl
theorem t_cellI {σ : Nat → Option Blk} {cs : List V} {t i : Nat} {k : IntKind} {n : Int} : dstore (some ⟨cs, true⟩) σ t 1 i (.lit (.int k n)) = if i < cs.length then some (supd σ t (some ⟨cs.set i (.lit (.int k n)), true⟩)) else none := by
  have h0 : dstore (some ⟨cs, true⟩) σ t 1 i (.lit (.int k n)) = if true = true ∧ [V.lit (.int k n)].length = 1 ∧ i + 1 ≤ cs.length then some (supd σ t (some ⟨putCells cs i [.lit (.int k n)], true⟩)) else none := rfl
  rw [h0]
  by_cases h : i < cs.length
  · rw [if_pos h, if_pos ⟨rfl, rfl, by omega⟩]; rfl
  · rw [if_neg h, if_neg (by omega)]
section
variable {P : Program} {c0 : Nat} {ρ : Nat → V} {c i : Nat} {r : List VO} {K : VS → Prop} {σ : Nat → Option Blk} {dr : Bool}
theorem s_ints1 {x : X} {n : Nat} (h : x.ev ρ = iv (n : Int)) (hk : wps P dr c0 r ⟨upd ρ i (ints (.id c) [n]), σ, c + 1⟩ K) : wps P dr c0 (⟨some i, .bsl true 1 1 [.int .i64 0] [(0, (1, x))], none⟩ :: r) ⟨ρ, σ, c⟩ K := by
  refine s_eff rfl (by intros; exact fun h => by cases h) (by intros; exact fun h => by cases h) ⟨_, _, _, none, .bsl (cs := ivs [n]) ?_, hk⟩
  simp only [partsOf, List.map, h]
  rfl
theorem s_app0I {x y : X} {u : Tok} {ys : List Nat} (hx : x.ev ρ = nil1) (hy : y.ev ρ = ints u ys) (hq : 0 < ys.length) (hb : ys.length ≤ 1000000)
    (hk : wps P dr c0 r ⟨upd ρ i (.buf c 0 ys.length none 1), supd σ c (some ⟨ivs ys, true⟩), c + 1⟩ K) : wps P dr c0 (⟨some i, .app 1 8 [.int .i64 0] x y, none⟩ :: r) ⟨ρ, σ, c⟩ K := by
  have hc : vcells 1 σ (y.ev ρ) = some (ivs ys) := by rw [hy]; cases u <;> rfl
  exact s_eff rfl (by intros; exact fun h => by cases h) (by intros; exact fun h => by cases h) ⟨_, _, _, none, .appNil hx hc (k := ys.length) (by simp) hq (by omega) (by omega), hk⟩
theorem killσ_ivs (t : Nat) (ps : List Nat) (b : Bool) : killσ t (supd noBlk t (some ⟨ivs ps, b⟩)) = supd noBlk t (some ⟨ivs ps, b⟩) := by
  funext u
  unfold killσ
  by_cases e : u = t
  · subst e
    rw [supd_same]
    simp only [Option.map, List.map_map]
    rfl
  · rw [supd_ne _ _ _ _ e]; rfl
theorem s_appI {x y : X} {u : Tok} {t n : Nat} {cap : Option Nat} {ps qs : List Nat} (hx : x.ev ρ = .buf t 0 n cap 1) (h0 : c0 ≤ t) (hn : n = ps.length) (hy : y.ev ρ = ints u qs) (hb : ps.length + qs.length ≤ 1000000)
    (hk : wps P dr c0 r ⟨upd (kill (some (.inl t)) ρ) i (.buf t 0 (n + qs.length) none 1), supd noBlk t (some ⟨ivs (ps ++ qs), true⟩), c⟩ K) : wps P dr c0 (⟨some i, .app 1 8 [.int .i64 0] x y, none⟩ :: r) ⟨ρ, supd noBlk t (some ⟨ivs ps, true⟩), c⟩ K := by
  have hc : vcells 1 (supd noBlk t (some ⟨ivs ps, true⟩)) (y.ev ρ) = some (ivs qs) := by rw [hy]; cases u <;> rfl
  refine s_eff rfl (by intros; exact fun h => by cases h) (by intros; exact fun h => by cases h) ⟨_, _, _, some (.inl t), .appMove (k := qs.length) hx (supd_same _ _ _) h0 hc (by simp) (by simp [hn]) (by omega) (by omega), ?_⟩
  have e : ((ivs ps).take (n * 1) ++ ivs qs).map (killV t) = ivs (ps ++ qs) := by
    rw [Nat.mul_one, hn, List.take_of_length_le (by simp), ← List.map_append, List.map_map]
    rfl
  rw [e, killσ_ivs, supd_two]
  exact hk
end
theorem frz_ivs (ρ : Nat → V) (c i tb n : Nat) (w : List Nat) (hn : w.length = n) : Go.VM.frozen ⟨ρ, supd noBlk tb (some ⟨ivs w, true⟩), c⟩ i tb 0 1 (ivs w) ((((ivs w).drop 0).take (n * 1)).map V.solid) = ⟨upd ρ i (ints (.id tb) w), supd noBlk tb (some ⟨ivs w, false⟩), c⟩ := by
  rw [List.drop_zero, Nat.mul_one, List.take_of_length_le (by simp [hn]), ivs_solid]
  simp only [Go.VM.frozen, supd_two]
  rfl

def Grown (S9 : V) (σ : Nat → Option Blk) (lo c : Nat) (w : List Nat) : Prop := (w = [] ∧ S9 = nil1 ∧ σ = noBlk) ∨ ∃ tb, S9 = .buf tb 0 w.length none 1 ∧ σ = supd noBlk tb (some ⟨ivs w, true⟩) ∧ lo ≤ tb ∧ tb < c
theorem Grown.mono {S9 : V} {σ : Nat → Option Blk} {lo c c' : Nat} {w : List Nat} (h : Grown S9 σ lo c w) (hc : c ≤ c') : Grown S9 σ lo c' w := by
  rcases h with h | ⟨tb, h1, h2, h3, h4⟩
  · exact .inl h
  · exact .inr ⟨tb, h1, h2, h3, by omega⟩
end Go.Proofs.Ytladcfeibpddeab
/-! the continued fraction of a root: plain facts -/
set_option linter.unusedVariables false
namespace Go.VM

/-- the next quotient, and what is behind it -/
def ca (f m d : Nat) : Nat := (f + m) / d
def cm (f m d : Nat) : Nat := d * ca f m d - m
def cd (n f m d : Nat) : Nat := (n - cm f m d * cm f m d) / d
structure Red (n f m d : Nat) : Prop where
  le : m ≤ f
  pos : 0 < m
  dpos : 0 < d
  near : f < m + d
  top : d ≤ f + m
  dvd : d ∣ n - m * m

theorem sq_sub {a b : Nat} (h : b ≤ a) : (a - b) * (a + b) = a * a - b * b := by
  obtain ⟨k, rfl⟩ : ∃ k, a = b + k := ⟨a - b, by omega⟩
  rw [Nat.add_sub_cancel_left]
  simp only [Nat.mul_add, Nat.add_mul]
  rw [Nat.mul_comm k b]
  omega
structure Step (n f m d : Nat) : Prop where
  a1 : 1 ≤ ca f m d
  sum : cm f m d + m = d * ca f m d
  red : Red n f (cm f m d) (cd n f m d)
  mul : d * cd n f m d = n - cm f m d * cm f m d
theorem red_step {n f m d : Nat} (hf1 : f * f < n) (hf2 : n < (f + 1) * (f + 1)) (h : Red n f m d) : Step n f m d := by
  obtain ⟨h1, h2, h3, h4, h5, h6⟩ := h
  have ha1 : 1 ≤ ca f m d := Nat.div_pos (by omega) h3
  have e := Nat.div_add_mod (f + m) d
  have er := Nat.mod_lt (f + m) h3
  have hda : d * ca f m d + (f + m) % d = f + m := e
  have hdd : d ≤ d * ca f m d := Nat.le_mul_of_pos_right d ha1
  obtain ⟨a, ea⟩ : ∃ a, a = ca f m d := ⟨_, rfl⟩
  obtain ⟨m', em⟩ : ∃ x, x = cm f m d := ⟨_, rfl⟩
  have em2 : m' = d * a - m := by rw [em, ea]; rfl
  rw [← ea] at ha1 hda hdd
  obtain ⟨p, hp⟩ : ∃ p, p = d * a := ⟨_, rfl⟩
  rw [← hp] at hda hdd em2
  have hsum : m' + m = p := by omega
  have hm1 : m' ≤ f := by omega
  have hm2 : 0 < m' := by omega
  have hm3 : f < m' + d := by omega
  have hmm : m' * m' ≤ f * f := Nat.mul_le_mul hm1 hm1
  have hmf : m * m ≤ f * f := Nat.mul_le_mul h1 h1
  have hdv : d ∣ n - m' * m' := by
    have k1 : ((d : Nat) : Int) ∣ ((n - m * m : Nat) : Int) := Int.natCast_dvd_natCast.2 h6
    refine Int.natCast_dvd_natCast.1 ?_
    rw [Int.natCast_sub (by omega)] at k1 ⊢
    have k2 : ((n : Int) - ((m' * m' : Nat) : Int)) = ((n : Int) - ((m * m : Nat) : Int)) + (d : Int) * ((a : Int) * ((m : Int) - (m' : Int))) := by
      have k3 : (d : Int) * (a : Int) = (m' : Int) + (m : Int) := by
        have : ((d * a : Nat) : Int) = ((m' + m : Nat) : Int) := by rw [hsum, hp]
        push_cast at this
        exact this
      rw [← Int.mul_assoc, k3]
      push_cast
      simp only [Int.add_mul, Int.mul_sub]
      rw [Int.mul_comm (m' : Int) (m : Int)]
      omega
    rw [k2]
    exact Int.dvd_add k1 (Int.dvd_mul_right _ _)
  obtain ⟨d', ed⟩ : ∃ x, x = cd n f m d := ⟨_, rfl⟩
  have hmul : d * d' = n - m' * m' := by
    rw [ed]
    unfold cd
    rw [← em]
    exact Nat.mul_div_cancel' hdv
  have hd1 : d' ≤ f + m' := by
    have k1 : n - m' * m' < (f + 1) * (f + 1) - m' * m' := by omega
    rw [← sq_sub (by omega), ← hmul] at k1
    have k2 : (f + 1 - m') * (f + 1 + m') ≤ d * (f + 1 + m') := Nat.mul_le_mul_right _ (by omega)
    have k3 := Nat.lt_of_mul_lt_mul_left (Nat.lt_of_lt_of_le k1 k2)
    omega
  have hd2 : f < m' + d' := by
    have k1 : d * (f - m') ≤ (f + m') * (f - m') := Nat.mul_le_mul_right _ (by omega)
    rw [Nat.mul_comm (f + m'), sq_sub hm1] at k1
    have k2 : d * (f - m') < d * d' := by rw [hmul]; omega
    have k3 := Nat.lt_of_mul_lt_mul_left k2
    omega
  have hd3 : 0 < d' := by
    rcases Nat.eq_zero_or_pos d' with h | h
    · rw [h, Nat.mul_zero] at hmul; omega
    · exact h
  refine ⟨by rw [← ea]; exact ha1, by rw [← em, ← ea, ← hp]; exact hsum, ?_, by rw [← ed, ← em]; exact hmul⟩
  rw [← em, ← ed]
  exact ⟨hm1, hm2, hd3, hd2, hd1, ⟨d, by rw [← hmul, Nat.mul_comm]⟩⟩
/-- the way back -/
theorem red_back {n f m d : Nat} (h : Red n f m d) (s : Step n f m d) : d = (n - cm f m d * cm f m d) / cd n f m d ∧ ca f m d = (f + cm f m d) / d ∧ m = d * ca f m d - cm f m d := by
  have h1 := s.mul
  have h2 := s.red.dpos
  have h3 := s.sum
  refine ⟨?_, ?_, by omega⟩
  · rw [← h1, Nat.mul_comm, Nat.mul_div_cancel_left _ h2]
  · have e : f + cm f m d = (f - m) + d * ca f m d := by have := h.le; omega
    rw [e, Nat.add_mul_div_left _ _ h.dpos, Nat.div_eq_of_lt (by have := h.near; have := h.le; omega), Nat.zero_add]
theorem red_inj {n f m d m2 d2 : Nat} (hf1 : f * f < n) (hf2 : n < (f + 1) * (f + 1)) (h : Red n f m d) (h2 : Red n f m2 d2) (e1 : cm f m d = cm f m2 d2) (e2 : cd n f m d = cd n f m2 d2) : m = m2 ∧ d = d2 := by
  obtain ⟨b1, b2, b3⟩ := red_back h (red_step hf1 hf2 h)
  obtain ⟨c1, c2, c3⟩ := red_back h2 (red_step hf1 hf2 h2)
  have hd : d = d2 := by rw [b1, c1, e1, e2]
  have ha : ca f m d = ca f m2 d2 := by rw [b2, c2, e1, hd]
  subst hd
  rw [ha, e1] at b3
  exact ⟨b3.trans c3.symm, rfl⟩

/-- the states: the i-th is behind i quotients -/
def sm (n f : Nat) : Nat → Nat × Nat
  | 0 => (0, 1)
  | i + 1 => (cm f (sm n f i).1 (sm n f i).2, cd n f (sm n f i).1 (sm n f i).2)
theorem sm_one {n f : Nat} : sm n f 1 = (f, n - f * f) := by
  show (cm f 0 1, cd n f 0 1) = _
  have h : cm f 0 1 = f := by simp [cm, ca]
  rw [h]
  unfold cd
  rw [h, Nat.div_one]
theorem sm_red {n f : Nat} (hf0 : 0 < f) (hf1 : f * f < n) (hf2 : n < (f + 1) * (f + 1)) : ∀ i, Red n f (sm n f (i + 1)).1 (sm n f (i + 1)).2
  | 0 => by
    rw [sm_one]
    have e : (f + 1) * (f + 1) = f * f + 2 * f + 1 := by simp only [Nat.add_mul, Nat.mul_add]; omega
    exact ⟨Nat.le_refl _, hf0, by show 0 < n - f * f; omega, by show f < f + (n - f * f); omega, by show n - f * f ≤ f + f; omega, Nat.dvd_refl _⟩
  | i + 1 => (red_step hf1 hf2 (sm_red hf0 hf1 hf2 i)).red
theorem sm_back {n f : Nat} (hf0 : 0 < f) (hf1 : f * f < n) (hf2 : n < (f + 1) * (f + 1)) : ∀ i j, sm n f (i + 1) = sm n f (i + 1 + j) → sm n f 1 = sm n f (1 + j)
  | 0, j, h => h
  | i + 1, j, h => by
    refine sm_back hf0 hf1 hf2 i j ?_
    have e : i + 1 + 1 + j = (i + j + 1) + 1 := by omega
    rw [e] at h
    have h1 := congrArg Prod.fst h
    have h2 := congrArg Prod.snd h
    obtain ⟨k1, k2⟩ := red_inj hf1 hf2 (sm_red hf0 hf1 hf2 i) (sm_red hf0 hf1 hf2 (i + j)) h1 h2
    rw [show i + 1 + j = i + j + 1 by omega]
    exact Prod.ext k1 k2

/-- more numbers than room: two are alike -/
theorem pigeon (B : Nat) : ∀ (k : Nat) (g : Nat → Nat), (∀ i, i < k → g i < B) → B < k → ∃ i j, i < j ∧ j < k ∧ g i = g j := by
  induction B with
  | zero => intro k g h hk; exact absurd (h 0 hk) (Nat.not_lt_zero _)
  | succ B ih =>
    intro k g h hk
    obtain ⟨k, rfl⟩ : ∃ k', k = k' + 1 := ⟨k - 1, by omega⟩
    by_cases e : ∃ i, i < k ∧ g i = g k
    · obtain ⟨i, hi, e⟩ := e
      exact ⟨i, k, hi, by omega, e⟩
    · obtain ⟨i, j, h1, h2, h3⟩ := ih k (fun i => if g i < g k then g i else g i - 1) (fun i hi => by
        have a1 := h i (by omega)
        have a2 := h k (by omega)
        have a3 : g i ≠ g k := fun q => e ⟨i, hi, q⟩
        split <;> omega) (by omega)
      refine ⟨i, j, h1, by omega, ?_⟩
      have a1 : g i ≠ g k := fun q => e ⟨i, by omega, q⟩
      have a2 : g j ≠ g k := fun q => e ⟨j, by omega, q⟩
      split at h3 <;> split at h3 <;> omega
theorem code_inj {B a b c d : Nat} (hb : b < B) (hd : d < B) (h : a * B + b = c * B + d) : a = c ∧ b = d := by
  rcases Nat.lt_trichotomy a c with g | g | g
  · have := Nat.mul_le_mul_right B (show a + 1 ≤ c from g)
    rw [Nat.add_mul, Nat.one_mul] at this
    omega
  · subst g; exact ⟨rfl, by omega⟩
  · have := Nat.mul_le_mul_right B (show c + 1 ≤ a from g)
    rw [Nat.add_mul, Nat.one_mul] at this
    omega
theorem sm_period {n f : Nat} (hf0 : 0 < f) (hf1 : f * f < n) (hf2 : n < (f + 1) * (f + 1)) : ∃ K, 1 ≤ K ∧ K ≤ (f + 1) * (2 * f + 1) ∧ sm n f 1 = sm n f (1 + K) := by
  obtain ⟨i, j, h1, h2, h3⟩ := pigeon ((f + 1) * (2 * f + 1)) ((f + 1) * (2 * f + 1) + 1) (fun i => (sm n f (i + 1)).1 * (2 * f + 1) + (sm n f (i + 1)).2) (fun i _ => by
    have r := sm_red hf0 hf1 hf2 i
    have h1 : (sm n f (i + 1)).1 * (2 * f + 1) ≤ f * (2 * f + 1) := Nat.mul_le_mul_right _ r.le
    have h2 := r.top
    have h3 := r.le
    simp only [Nat.add_mul, Nat.one_mul] at h1 ⊢
    omega) (Nat.lt_succ_self _)
  have r := sm_red hf0 hf1 hf2 i
  have r2 := sm_red hf0 hf1 hf2 j
  have e : (sm n f (i + 1)).1 = (sm n f (j + 1)).1 ∧ (sm n f (i + 1)).2 = (sm n f (j + 1)).2 := by
    have b1 : (sm n f (i + 1)).2 < 2 * f + 1 := by have := r.top; have := r.le; omega
    have b2 : (sm n f (j + 1)).2 < 2 * f + 1 := by have := r2.top; have := r2.le; omega
    exact code_inj b1 b2 h3
  refine ⟨j - i, by omega, by omega, sm_back hf0 hf1 hf2 i (j - i) ?_⟩
  rw [show i + 1 + (j - i) = j + 1 by omega]
  exact Prod.ext e.1 e.2
/-- the period ends where the divisor is 1 -/
theorem sm_end {n f : Nat} (hf0 : 0 < f) (hf1 : f * f < n) (hf2 : n < (f + 1) * (f + 1)) : ∃ K, 1 ≤ K ∧ K ≤ (f + 1) * (2 * f + 1) ∧ (sm n f K).2 = 1 := by
  obtain ⟨K, h1, h2, h3⟩ := sm_period hf0 hf1 hf2
  refine ⟨K, h1, h2, ?_⟩
  obtain ⟨k, rfl⟩ : ∃ k, K = k + 1 := ⟨K - 1, by omega⟩
  have r := sm_red hf0 hf1 hf2 k
  have s := red_step hf1 hf2 r
  have e : sm n f (1 + (k + 1)) = (cm f (sm n f (k + 1)).1 (sm n f (k + 1)).2, cd n f (sm n f (k + 1)).1 (sm n f (k + 1)).2) := by rw [Nat.add_comm]; rfl
  rw [sm_one, e] at h3
  have e1 := congrArg Prod.fst h3
  have e2 := congrArg Prod.snd h3
  simp only at e1 e2
  have hm := s.mul
  rw [← e1, ← e2] at hm
  have : (sm n f (k + 1)).2 * (n - f * f) = 1 * (n - f * f) := by rw [hm, Nat.one_mul]
  exact Nat.eq_of_mul_eq_mul_right (by omega) this
/-- the divisor is 1 just where the quotient is twice the first -/
theorem end_iff {n f m d : Nat} (hf0 : 0 < f) (h : Red n f m d) : d = 1 ↔ ca f m d = 2 * f := by
  constructor
  · intro e
    subst e
    have := h.near
    have := h.le
    unfold ca
    rw [Nat.div_one]
    omega
  · intro e
    rcases Nat.lt_or_ge d 2 with g | g
    · have := h.dpos; omega
    · have h1 : ca f m d * d ≤ f + m := Nat.div_mul_le_self _ _
      rw [e] at h1
      have h2 : 2 * f * 2 ≤ 2 * f * d := Nat.mul_le_mul_left _ g
      have := h.le
      omega
end Go.VM
set_option linter.unusedVariables false
namespace Go.VM

/-- the i-th quotient of the root -/
def pq (n f i : Nat) : Nat := ca f (sm n f i).1 (sm n f i).2
theorem pq_zero (n f : Nat) : pq n f 0 = f := by simp [pq, ca, sm]

structure Sq (n f : Nat) : Prop where
  f0 : 0 < f
  f1 : f * f < n
  f2 : n < (f + 1) * (f + 1)
variable {n f : Nat}
theorem Sq.red (h : Sq n f) (i : Nat) : Red n f (sm n f (i + 1)).1 (sm n f (i + 1)).2 := sm_red h.f0 h.f1 h.f2 i
theorem Sq.dpos (h : Sq n f) : ∀ i, 0 < (sm n f i).2
  | 0 => Nat.one_pos
  | i + 1 => (h.red i).dpos
/-- one step's equations -/
theorem Sq.step (h : Sq n f) : ∀ i, (sm n f (i + 1)).1 + (sm n f i).1 = (sm n f i).2 * pq n f i ∧ (sm n f i).2 * (sm n f (i + 1)).2 + (sm n f (i + 1)).1 * (sm n f (i + 1)).1 = n
  | 0 => by
    rw [sm_one, pq_zero]
    have := h.f1
    show f + 0 = 1 * f ∧ 1 * (n - f * f) + f * f = n
    omega
  | i + 1 => by
    have s := red_step h.f1 h.f2 (h.red i)
    have h1 : cm f (sm n f (i + 1)).1 (sm n f (i + 1)).2 * cm f (sm n f (i + 1)).1 (sm n f (i + 1)).2 ≤ f * f := Nat.mul_le_mul s.red.le s.red.le
    have h2 := s.mul
    have h3 := h.f1
    refine ⟨s.sum, ?_⟩
    show (sm n f (i + 1)).2 * cd n f (sm n f (i + 1)).1 (sm n f (i + 1)).2 + cm f (sm n f (i + 1)).1 (sm n f (i + 1)).2 * cm f (sm n f (i + 1)).1 (sm n f (i + 1)).2 = n
    rw [h2]
    omega

/-- the fractions of the chain: (P, the one before), (Q, the one before) -/
def cv (n f : Nat) : Nat → (Nat × Nat) × (Nat × Nat)
  | 0 => ((f, 1), (1, 0))
  | i + 1 => ((pq n f (i + 1) * (cv n f i).1.1 + (cv n f i).1.2, (cv n f i).1.1), (pq n f (i + 1) * (cv n f i).2.1 + (cv n f i).2.2, (cv n f i).2.1))
def sgn (i : Nat) : Int := if i % 2 = 0 then 1 else -1
theorem sgn_succ (i : Nat) : sgn (i + 1) = - sgn i := by
  unfold sgn
  split <;> split <;> omega
theorem cv_alg {a d m m' d0 d' n P P' Q Q' s : Int} (hd : d ≠ 0) (h1 : P * P - n * (Q * Q) = - s * d) (h2 : P * P' - n * (Q * Q') = s * m) (h3 : P' * P' - n * (Q' * Q') = s * d0) (t2 : d0 * d + m * m = n) (t3 : m' + m = d * a) (t4 : d * d' + m' * m' = n) :
    (a * P + P') * (a * P + P') - n * ((a * Q + Q') * (a * Q + Q')) = - - s * d' ∧ (a * P + P') * P - n * ((a * Q + Q') * Q) = - s * m' ∧ P * P - n * (Q * Q) = - s * d := by
  have td : d' = d0 + a * (m - m') := by
    have k : d * d' = d * (d0 + a * (m - m')) := by grind
    exact Int.eq_of_mul_eq_mul_left hd k
  refine ⟨?_, ?_, h1⟩ <;> grind
theorem cv_norm (h : Sq n f) : ∀ i, ((cv n f i).1.1 : Int) * (cv n f i).1.1 - n * ((cv n f i).2.1 * (cv n f i).2.1) = - sgn i * (sm n f (i + 1)).2 ∧
    ((cv n f i).1.1 : Int) * (cv n f i).1.2 - n * ((cv n f i).2.1 * (cv n f i).2.2) = sgn i * (sm n f (i + 1)).1 ∧
    ((cv n f i).1.2 : Int) * (cv n f i).1.2 - n * ((cv n f i).2.2 * (cv n f i).2.2) = sgn i * (sm n f i).2
  | 0 => by
    have h1 := h.f1
    have e : ((n - f * f : Nat) : Int) = (n : Int) - (f : Int) * f := by rw [Int.natCast_sub (Nat.le_of_lt h1), Int.natCast_mul]
    rw [sm_one]
    simp only [cv, sgn, sm, e]
    refine ⟨?_, ?_, ?_⟩ <;> simp <;> omega
  | i + 1 => by
    obtain ⟨h1, h2, h3⟩ := cv_norm h i
    obtain ⟨s1, s2⟩ := h.step i
    obtain ⟨s3, s4⟩ := h.step (i + 1)
    have hd := h.dpos (i + 1)
    rw [sgn_succ]
    simp only [cv]
    push_cast
    exact cv_alg (by omega) h1 h2 h3 (by exact_mod_cast s2) (by exact_mod_cast s3) (by exact_mod_cast s4)
theorem pell_iff (h : Sq n f) (i : Nat) : (cv n f i).1.1 * (cv n f i).1.1 = n * ((cv n f i).2.1 * (cv n f i).2.1) + 1 ↔ i % 2 = 1 ∧ (sm n f (i + 1)).2 = 1 := by
  obtain ⟨h1, _, _⟩ := cv_norm h i
  have hd := h.dpos (i + 1)
  have e : (((cv n f i).1.1 * (cv n f i).1.1 : Nat) : Int) - ((n * ((cv n f i).2.1 * (cv n f i).2.1) : Nat) : Int) = - sgn i * (sm n f (i + 1)).2 := by
    push_cast; exact h1
  generalize (cv n f i).1.1 * (cv n f i).1.1 = X at *
  generalize n * ((cv n f i).2.1 * (cv n f i).2.1) = Y at *
  generalize (sm n f (i + 1)).2 = d at *
  unfold sgn at e
  split at e
  · constructor
    · intro; omega
    · intro; omega
  · constructor
    · intro; omega
    · intro; omega

/-- the period -/
structure Per (n f l : Nat) : Prop where
  one : 1 ≤ l
  fin : (sm n f l).2 = 1
  no : ∀ j, 1 ≤ j → j < l → (sm n f j).2 ≠ 1
theorem per_exists (h : Sq n f) : ∃ l, l ≤ (f + 1) * (2 * f + 1) ∧ Per n f l := by
  obtain ⟨K, k1, k2, k3⟩ := sm_end h.f0 h.f1 h.f2
  have key : ∀ b K, K ≤ b → 1 ≤ K → (sm n f K).2 = 1 → ∃ l, l ≤ K ∧ Per n f l := by
    intro b
    induction b with
    | zero => intro K h1 h2; omega
    | succ b ih =>
      intro K h1 h2 h3
      by_cases e : ∃ j, 1 ≤ j ∧ j < K ∧ (sm n f j).2 = 1
      · obtain ⟨j, j1, j2, j3⟩ := e
        obtain ⟨l, l1, l2⟩ := ih j (by omega) j1 j3
        exact ⟨l, by omega, l2⟩
      · exact ⟨K, Nat.le_refl _, h2, h3, fun j j1 j2 j3 => e ⟨j, j1, j2, j3⟩⟩
  obtain ⟨l, l1, l2⟩ := key K K (Nat.le_refl _) k1 k3
  exact ⟨l, by omega, l2⟩
theorem per_state (h : Sq n f) {l : Nat} (p : Per n f l) : sm n f l = (f, 1) := by
  obtain ⟨k, rfl⟩ : ∃ k, l = k + 1 := ⟨l - 1, by have := p.one; omega⟩
  have r := h.red k
  have e := p.fin
  have h1 := r.near
  have h2 := r.le
  exact Prod.ext (by show (sm n f (k + 1)).1 = f; omega) e
theorem per_add (h : Sq n f) {l : Nat} (p : Per n f l) : ∀ i, sm n f (l + (i + 1)) = sm n f (i + 1)
  | 0 => by
    show (cm f (sm n f l).1 (sm n f l).2, cd n f (sm n f l).1 (sm n f l).2) = _
    rw [per_state h p, sm_one]
    have e : cm f f 1 = f := by unfold cm ca; rw [Nat.div_one]; omega
    show (cm f f 1, cd n f f 1) = _
    unfold cd
    rw [e, Nat.div_one]
  | i + 1 => by
    show (cm f (sm n f (l + (i + 1))).1 (sm n f (l + (i + 1))).2, cd n f (sm n f (l + (i + 1))).1 (sm n f (l + (i + 1))).2) = _
    rw [per_add h p i]
    rfl
theorem per_mod (h : Sq n f) {l : Nat} (p : Per n f l) (i : Nat) : sm n f (i + 1) = sm n f (i % l + 1) := by
  induction i using Nat.strongRecOn with
  | _ i ih =>
    rcases Nat.lt_or_ge i l with g | g
    · rw [Nat.mod_eq_of_lt g]
    · obtain ⟨j, rfl⟩ : ∃ j, i = l + j := ⟨i - l, by omega⟩
      have := p.one
      rw [show l + j + 1 = l + (j + 1) by omega, per_add h p, ih j (by omega), Nat.add_mod_left]
/-- how many terms 'Pell' takes behind the first -/
def terms (l : Nat) : Nat := if l % 2 = 1 then 2 * l - 1 else l - 1
theorem terms_end (h : Sq n f) {l : Nat} (p : Per n f l) : terms l % 2 = 1 ∧ (sm n f (terms l + 1)).2 = 1 := by
  have h1 := p.one
  unfold terms
  split
  · refine ⟨by omega, ?_⟩
    rw [show 2 * l - 1 + 1 = l + (l - 1 + 1) by omega, per_add h p, show l - 1 + 1 = l by omega]
    exact p.fin
  · refine ⟨by omega, ?_⟩
    rw [show l - 1 + 1 = l by omega]
    exact p.fin
theorem terms_first (h : Sq n f) {l : Nat} (p : Per n f l) {i : Nat} (hi : i < terms l) (h2 : i % 2 = 1) : (sm n f (i + 1)).2 ≠ 1 := by
  have h1 := p.one
  unfold terms at hi
  rcases Nat.lt_or_ge (i + 1) l with g | g
  · exact p.no _ (by omega) g
  · split at hi
    · have : i + 1 ≠ l := by omega
      rw [show i + 1 = l + ((i - l) + 1) by omega, per_add h p]
      exact p.no _ (by omega) (by omega)
    · omega
theorem pq_end (h : Sq n f) {l : Nat} (p : Per n f l) : pq n f l = 2 * f := by
  unfold pq
  rw [per_state h p]
  unfold ca
  rw [Nat.div_one]
  omega
theorem pq_no (h : Sq n f) {l : Nat} (p : Per n f l) {j : Nat} (h1 : 1 ≤ j) (h2 : j < l) : pq n f j ≠ 2 * f := by
  obtain ⟨k, rfl⟩ : ∃ k, j = k + 1 := ⟨j - 1, by omega⟩
  exact fun e => p.no _ h1 h2 ((end_iff h.f0 (h.red k)).2 e)
theorem pq_bound (h : Sq n f) (i : Nat) : 1 ≤ pq n f i ∧ pq n f i ≤ 2 * f := by
  cases i with
  | zero => rw [pq_zero]; have := h.f0; omega
  | succ k =>
    have r := h.red k
    refine ⟨(red_step h.f1 h.f2 r).a1, ?_⟩
    have h1 : pq n f (k + 1) ≤ f + (sm n f (k + 1)).1 := Nat.div_le_self _ _
    have := r.le
    omega
/-- the period reads the same from both ends -/
theorem pal_state (h : Sq n f) {l : Nat} (p : Per n f l) : ∀ j, j < l → (sm n f (l - j)).2 = (sm n f j).2 ∧ (sm n f (l - j)).1 = (sm n f (j + 1)).1
  | 0, _ => by
    rw [Nat.sub_zero, per_state h p, sm_one]
    exact ⟨rfl, rfl⟩
  | j + 1, hj => by
    obtain ⟨i1, i2⟩ := pal_state h p j (by omega)
    obtain ⟨k, hk⟩ : ∃ k, l - (j + 1) = k + 1 := ⟨l - (j + 1) - 1, by omega⟩
    have hk2 : l - j = k + 1 + 1 := by omega
    rw [hk2] at i1 i2
    rw [hk]
    obtain ⟨s1, s2⟩ := h.step (k + 1)
    obtain ⟨t1, t2⟩ := h.step j
    obtain ⟨u1, u2⟩ := h.step (j + 1)
    rw [i1, i2] at s2
    have hd := h.dpos j
    have e1 : (sm n f (k + 1)).2 = (sm n f (j + 1)).2 := by
      refine Nat.eq_of_mul_eq_mul_right hd ?_
      rw [Nat.mul_comm (sm n f (j + 1)).2]
      omega
    refine ⟨e1, ?_⟩
    obtain ⟨b1, b2, b3⟩ := red_back (h.red k) (red_step h.f1 h.f2 (h.red k))
    have e2 : pq n f (k + 1) = pq n f (j + 1) := by
      show ca f _ _ = ca f _ _
      rw [b2]
      have : cm f (sm n f (k + 1)).1 (sm n f (k + 1)).2 = (sm n f (j + 1)).1 := i2
      rw [this, e1]
      rfl
    rw [i2, e1, e2] at s1
    omega
theorem pal (h : Sq n f) {l : Nat} (p : Per n f l) {j : Nat} (h1 : 1 ≤ j) (h2 : j < l) : pq n f (l - j) = pq n f j := by
  obtain ⟨i1, i2⟩ := pal_state h p j h2
  obtain ⟨k, hk⟩ : ∃ k, l - j = k + 1 := ⟨l - j - 1, by omega⟩
  obtain ⟨k2, rfl⟩ : ∃ k2, j = k2 + 1 := ⟨j - 1, by omega⟩
  obtain ⟨c1, c2, c3⟩ := red_back (h.red k2) (red_step h.f1 h.f2 (h.red k2))
  unfold pq
  rw [c2]
  have : cm f (sm n f (k2 + 1)).1 (sm n f (k2 + 1)).2 = (sm n f (l - (k2 + 1))).1 := i2.symm
  rw [this, ← i1]
  rfl
end Go.VM
set_option linter.unusedSimpArgs false
set_option linter.unusedVariables false
set_option maxRecDepth 100000
set_option maxHeartbeats 8000000
namespace Go.Proofs.Ytladcfeibpddeab
open Go.VM Go.RowKit

/-! ### the continued fraction of a square root -/
/-- the chain's first l numbers -/
def cl (n f l : Nat) : List Nat := (List.range l).map fun i => pq n f (i + 1)
theorem cl_len (n f l : Nat) : (cl n f l).length = l := by simp [cl]
theorem cl_succ (n f i : Nat) : cl n f (i + 1) = cl n f i ++ [pq n f (i + 1)] := by simp [cl, List.range_succ]
theorem cl_get {n f l j : Nat} (h : j < l) : (cl n f l).getD j 0 = pq n f (j + 1) := by
  rw [List.getD_eq_getElem?_getD]
  simp [cl, h]
def ChainR (c c' n : Nat) (r : V) : Prop := ∃ f, f * f ≤ n ∧ n < (f + 1) * (f + 1) ∧ ((f * f = n ∧ r = .tup [iv (f : Int), nil1, iv 0]) ∨ (Sq n f ∧ ∃ l tb, Per n f l ∧ l ≤ 131072 ∧ r = .tup [iv (f : Int), ints (.id tb) (cl n f l), iv 0] ∧ c ≤ tb ∧ tb < c'))
theorem sq_le_of {a b : Nat} (h : a ≤ b) : a * a ≤ b * b := Nat.mul_le_mul h h
theorem sq_inj {f f2 n : Nat} (h1 : f * f ≤ n) (h2 : n < (f + 1) * (f + 1)) (h3 : f2 * f2 ≤ n) (h4 : n < (f2 + 1) * (f2 + 1)) : f = f2 := by
  rcases Nat.lt_trichotomy f f2 with g | g | g
  · have := sq_le_of (show f + 1 ≤ f2 from g); omega
  · exact g
  · have := sq_le_of (show f2 + 1 ≤ f from g); omega
theorem sq_self_le (f : Nat) : f ≤ f * f := by
  rcases Nat.eq_zero_or_pos f with h | h
  · rw [h]; exact Nat.zero_le _
  · have := Nat.mul_le_mul_left f h; omega
theorem per_len {n f l : Nat} (h : Sq n f) (hf : f ≤ 255) (p : Per n f l) : l ≤ 131072 := by
  obtain ⟨l2, h2, p2⟩ := per_exists h
  have e : l = l2 := by
    rcases Nat.lt_trichotomy l l2 with g | g | g
    · exact absurd p.fin (p2.no l p.one g)
    · exact g
    · exact absurd p2.fin (p.no l2 p2.one g)
  have h3 : (f + 1) * (2 * f + 1) ≤ 256 * 511 := Nat.mul_le_mul (by omega) (by omega)
  omega
theorem step_int {n f : Nat} (h : Sq n f) (hn : n ≤ 65536) (i : Nat) : ∃ q r : Nat, q ≤ 65536 ∧ r ≤ 65536 ∧ (sm n f i).1 ≤ 65536 ∧ (sm n f (i + 1)).1 ≤ 65536 ∧ f ≤ 65536 ∧ 0 < (sm n f i).2 ∧ 0 < (sm n f (i + 1)).2 ∧
    ((sm n f i).2 : Int) * (pq n f i : Int) = (((sm n f (i + 1)).1 + (sm n f i).1 : Nat) : Int) ∧ (((sm n f (i + 1)).1 + (sm n f i).1 : Nat) : Int) - ((sm n f i).1 : Int) = ((sm n f (i + 1)).1 : Int) ∧
    ((sm n f (i + 1)).1 : Int) * ((sm n f (i + 1)).1 : Int) = (q : Int) ∧ (n : Int) - (q : Int) = (r : Int) ∧ (r : Int) / ((sm n f i).2 : Int) = ((sm n f (i + 1)).2 : Int) ∧
    (f : Int) + ((sm n f (i + 1)).1 : Int) = ((f + (sm n f (i + 1)).1 : Nat) : Int) ∧ ((f + (sm n f (i + 1)).1 : Nat) : Int) / ((sm n f (i + 1)).2 : Int) = (pq n f (i + 1) : Int) := by
  obtain ⟨s1, s2⟩ := h.step i
  have dp := h.dpos i
  have dp1 := h.dpos (i + 1)
  have ml := (h.red i).le
  have hf : f ≤ n := Nat.le_trans (sq_self_le f) (Nat.le_of_lt h.f1)
  have ml0 : (sm n f i).1 ≤ f := by
    cases i with
    | zero => exact Nat.zero_le _
    | succ k => exact (h.red k).le
  have aa : pq n f (i + 1) = (f + (sm n f (i + 1)).1) / (sm n f (i + 1)).2 := rfl
  rw [aa]
  refine ⟨(sm n f (i + 1)).1 * (sm n f (i + 1)).1, (sm n f i).2 * (sm n f (i + 1)).2, by omega, by omega, by omega, by omega, by omega, dp, dp1, ?_, by omega, (Int.natCast_mul _ _).symm, by omega, ?_, by omega, (Int.natCast_ediv _ _).symm⟩
  · rw [← Int.natCast_mul, ← s1]
  · rw [← Int.natCast_ediv, Nat.mul_div_cancel_left _ dp]

theorem chain_spec (n : Int) (c : Nat) : VSpec Try.prog F.roots_Chain c [iv n] (fun r c' => ((n < 0 ∨ 65536 < n) → r = .tup [iv 0, nil1, iv 1]) ∧ (0 ≤ n → n ≤ 65536 → ChainR c c' n.toNat r)) := by
  refine spec_mk hm E.roots_Chain B.roots_Chain K.roots_Chain Q.roots_Chain (by rw [N.roots_Chain]; simp) ?_
  unfold C.roots_Chain R.roots_Chain
  by_cases g1 : n < 0
  · (repeat (first | refine v_reg ?_ | refine v_last ?_ | refine vwp_seq ?_ | refine vwp_block ?_ | refine vwp_skip ?_ | refine vwp_exit ?_ | refine vwp_ret ?_ | refine v_cond ?_ | simp only [vm, ite_true, ite_false, eq_self, reduceIte, Nat.reduceEqDiff, Option.map, g1] | refine And.intro (by omega) ?_))
    exact ⟨fun _ => trivial, fun h => by omega⟩
  by_cases g2 : (65536 : Int) < n
  · (repeat (first | refine v_reg ?_ | refine v_last ?_ | refine vwp_seq ?_ | refine vwp_block ?_ | refine vwp_skip ?_ | refine vwp_exit ?_ | refine vwp_ret ?_ | refine v_cond ?_ | simp only [vm, ite_true, ite_false, eq_self, reduceIte, Nat.reduceEqDiff, Option.map, g1, g2] | refine And.intro (by omega) ?_))
    exact ⟨fun _ => trivial, fun h => by omega⟩
  obtain ⟨n, rfl⟩ : ∃ k : Nat, n = (k : Int) := ⟨n.toNat, by omega⟩
  have e0 : ((n : Int)).toNat = n := by omega
  have hn : n ≤ 65536 := by omega
  have hno : ¬ ((n : Int) < 0 ∨ (65536 : Int) < n) := by omega
  rw [e0]
  (repeat (first | refine v_reg ?_ | refine v_last ?_ | refine vwp_seq ?_ | refine vwp_block ?_ | refine vwp_skip ?_ | refine vwp_exit ?_ | refine vwp_ret ?_ | refine v_cond ?_ | simp only [vm, ite_true, ite_false, eq_self, reduceIte, Nat.reduceEqDiff, Option.map, g1, g2] | refine And.intro (by omega) ?_))
  refine v_loop (fun S => ∃ f, f * f ≤ n ∧ n < (f + 1) * (f + 1) ∧ S.ρ 0 = iv (n : Int) ∧ S.ρ 5 = iv (f : Int) ∧ S.σ = noBlk ∧ c ≤ S.c) ?_ ?_
  · refine vwp_loop (fun q S => ∃ f, q = n - f ∧ f * f ≤ n ∧ S.ρ 0 = iv (n : Int) ∧ S.ρ 5 = iv (f : Int) ∧ S.σ = noBlk ∧ c ≤ S.c) n ?_ ?_
    · exact ⟨0, by omega, by omega, rfl, rfl, rfl, Nat.le_refl _⟩
    rintro q ⟨ρ2, σ, c4⟩ ⟨f, hq, hf, h0, h5, hσ, hc4⟩
    dsimp only at h0 h5 hσ hc4
    subst hσ
    have hfn := Nat.le_trans (sq_self_le f) hf
    have e1 : (f : Int) + 1 = ((f + 1 : Nat) : Int) := by omega
    have e2 : ((f + 1 : Nat) : Int) * ((f + 1 : Nat) : Int) = (((f + 1) * (f + 1) : Nat) : Int) := (Int.natCast_mul _ _).symm
    have hb := sq_le_of (show f + 1 ≤ 65537 by omega)
    have hs := sq_self_le (f + 1)
    obtain ⟨s, hs0⟩ : ∃ s, s = (f + 1) * (f + 1) := ⟨_, rfl⟩
    rw [← hs0] at e2 hb hs
    by_cases g : (s : Int) ≤ (n : Int)
    · (repeat (first | refine v_reg ?_ | refine v_last ?_ | refine vwp_seq ?_ | refine vwp_block ?_ | refine vwp_skip ?_ | refine vwp_exit ?_ | refine vwp_ret ?_ | refine v_cond ?_ | simp only [vm, ite_true, ite_false, eq_self, reduceIte, Nat.reduceEqDiff, Option.map, h0, h5, e1, e2, g] | refine And.intro (by omega) ?_))
      exact ⟨n - (f + 1), by omega, f + 1, rfl, by omega, rfl, hc4⟩
    · (repeat (first | refine v_reg ?_ | refine v_last ?_ | refine vwp_seq ?_ | refine vwp_block ?_ | refine vwp_skip ?_ | refine vwp_exit ?_ | refine vwp_ret ?_ | refine v_cond ?_ | simp only [vm, ite_true, ite_false, eq_self, reduceIte, Nat.reduceEqDiff, Option.map, h0, h5, e1, e2, g] | refine And.intro (by omega) ?_))
      exact ⟨f, hf, by omega, rfl, hc4⟩
  rintro ⟨ρ3, σ, c1⟩ ⟨f, hf1, hf2, h0, h5, hσ, hc1⟩
  dsimp only at h0 h5 hσ hc1
  subst hσ
  have hfn := Nat.le_trans (sq_self_le f) hf1
  have e1 : (f : Int) * (f : Int) = ((f * f : Nat) : Int) := (Int.natCast_mul _ _).symm
  obtain ⟨s, hs0⟩ : ∃ s, s = f * f := ⟨_, rfl⟩
  rw [← hs0] at e1 hf1
  by_cases g : (s : Int) = (n : Int)
  · (repeat (first | refine v_reg ?_ | refine v_last ?_ | refine vwp_seq ?_ | refine vwp_block ?_ | refine vwp_skip ?_ | refine vwp_exit ?_ | refine vwp_ret ?_ | refine v_cond ?_ | simp only [vm, ite_true, ite_false, eq_self, reduceIte, Nat.reduceEqDiff, Option.map, h0, h5, e1, g] | refine And.intro (by omega) ?_))
    exact ⟨fun h => by rcases h with h | h <;> first | exact h.elim | omega, fun _ _ => ⟨f, by omega, hf2, .inl ⟨by omega, rfl⟩⟩⟩
  have hsq : Sq n f := ⟨by
    rcases Nat.eq_zero_or_pos f with h | h
    · rw [h] at hf2 hs0; omega
    · exact h, by omega, hf2⟩
  have hf255 : f ≤ 255 := by
    rcases Nat.lt_or_ge f 256 with h | h
    · omega
    · have := sq_le_of h; omega
  obtain ⟨l, hl, hp⟩ := per_exists hsq
  have hlb := per_len hsq hf255 hp
  (repeat (first | refine v_reg ?_ | refine v_last ?_ | refine vwp_seq ?_ | refine vwp_block ?_ | refine vwp_skip ?_ | refine vwp_exit ?_ | refine vwp_ret ?_ | refine v_cond ?_ | simp only [vm, ite_true, ite_false, eq_self, reduceIte, Nat.reduceEqDiff, Option.map, h0, h5, e1, g] | refine And.intro (by omega) ?_))
  refine v_loop (fun S => S.ρ 5 = iv (f : Int) ∧ Grown (S.ρ 6) S.σ c1 S.c (cl n f l) ∧ c1 ≤ S.c) ?_ ?_
  · refine vwp_loop (fun q S => ∃ i, q = l - i ∧ i ≤ l ∧ S.ρ 0 = iv (n : Int) ∧ S.ρ 5 = iv (f : Int) ∧ S.ρ 7 = iv ((sm n f i).1 : Int) ∧ S.ρ 8 = iv ((sm n f i).2 : Int) ∧ S.ρ 9 = iv (pq n f i : Int) ∧ Grown (S.ρ 6) S.σ c1 S.c (cl n f i) ∧ c1 ≤ S.c) l ?_ ?_
    · exact ⟨0, by omega, by omega, h0, h5, rfl, rfl, by rw [pq_zero]; rfl, .inl ⟨rfl, rfl, rfl⟩, Nat.le_refl _⟩
    rintro q ⟨ρ2, σ, c4⟩ ⟨i, hq, hi, h0, h5, h7, h8, h9, hgr, hc4⟩
    dsimp only at h0 h5 h7 h8 h9 hgr hc4
    by_cases gi : i = l
    · subst gi
      have gp : (pq n f i : Int) = 2 * (f : Int) := by have := pq_end hsq hp; omega
      have hl1 := hp.one
      rcases hgr with ⟨hw0, _, _⟩ | ⟨tb, h6, hσ, htb, htb2⟩
      · have := cl_len n f i
        rw [hw0] at this
        exact absurd this.symm (by simp; omega)
      · have hlen : ((cl n f i).length : Int) = (i : Int) := by rw [cl_len]
        have gz : ¬ (i : Int) = 0 := by omega
        subst hσ
        (repeat (first | refine v_reg ?_ | refine v_last ?_ | refine vwp_seq ?_ | refine vwp_block ?_ | refine vwp_skip ?_ | refine vwp_exit ?_ | refine vwp_ret ?_ | refine v_cond ?_ | simp only [vm, ite_true, ite_false, eq_self, reduceIte, Nat.reduceEqDiff, Option.map, h0, h5, h6, h7, h8, h9, gp, hlen, gz] | refine And.intro (by omega) ?_))
        exact ⟨.inr ⟨tb, rfl, rfl, htb, htb2⟩, hc4⟩
    have gp : ¬ (pq n f i : Int) = 2 * (f : Int) := by
      have h1 : pq n f i ≠ 2 * f := by
        rcases Nat.eq_zero_or_pos i with h | h
        · rw [h, pq_zero]; have := hsq.f0; omega
        · exact pq_no hsq hp h (by omega)
      omega
    obtain ⟨q1, r1, b1, b2, b3, b4, b5, b6, b7, w1, w2, w3, w4, w5, w6, w7⟩ := step_int hsq hn i
    have pb := (pq_bound hsq i).2
    have pb1 := (pq_bound hsq (i + 1)).2
    have hsucc := cl_succ n f i
    have hlen := cl_len n f i
    generalize em : (sm n f i).1 = m at *
    generalize em1 : (sm n f (i + 1)).1 = m1 at *
    generalize ed : (sm n f i).2 = d at *
    generalize ed1 : (sm n f (i + 1)).2 = d1 at *
    generalize ea : pq n f i = a at *
    generalize ea1 : pq n f (i + 1) = a1 at *
    obtain ⟨w, hw⟩ : ∃ w, w = cl n f i := ⟨_, rfl⟩
    rw [← hw] at hgr hsucc hlen
    rcases hgr with ⟨hw0, h6, hσ⟩ | ⟨tb, h6, hσ, htb, htb2⟩
    · rw [hw0] at hsucc
      subst hσ
      (repeat (first | refine v_reg ?_ | refine v_last ?_ | refine vwp_seq ?_ | refine vwp_block ?_ | refine vwp_skip ?_ | refine vwp_exit ?_ | refine vwp_ret ?_ | refine v_cond ?_ | simp only [vm, ite_true, ite_false, eq_self, reduceIte, Nat.reduceEqDiff, Option.map, h0, h5, h6, h7, h8, h9, gp, w1, w2, w3, w4, w5, w6, w7] | refine And.intro (by omega) ?_))
      refine s_ints1 (n := a1) (by simp only [vm, ite_true, ite_false, eq_self, reduceIte, Nat.reduceEqDiff, Option.map]) ?_
      refine s_app0I (u := .id c4) (ys := [a1]) (by simp only [vm, ite_true, ite_false, eq_self, reduceIte, Nat.reduceEqDiff, Option.map, h6]) (by simp only [vm, ite_true, ite_false, eq_self, reduceIte, Nat.reduceEqDiff, Option.map]) (Nat.zero_lt_one) (by simp) ?_
      (repeat (first | refine v_reg ?_ | refine v_last ?_ | refine vwp_seq ?_ | refine vwp_block ?_ | refine vwp_skip ?_ | refine vwp_exit ?_ | refine vwp_ret ?_ | refine v_cond ?_ | simp only [vm, ite_true, ite_false, eq_self, reduceIte, Nat.reduceEqDiff, Option.map, h0, h5, h7, h8, h9] | refine And.intro (by omega) ?_))
      exact ⟨l - (i + 1), by omega, i + 1, rfl, by omega, by rw [em1], by rw [ed1], by rw [ea1], by rw [hsucc]; exact .inr ⟨c4 + 1, rfl, rfl, by omega, by omega⟩, by omega⟩
    · subst hσ
      (repeat (first | refine v_reg ?_ | refine v_last ?_ | refine vwp_seq ?_ | refine vwp_block ?_ | refine vwp_skip ?_ | refine vwp_exit ?_ | refine vwp_ret ?_ | refine v_cond ?_ | simp only [vm, ite_true, ite_false, eq_self, reduceIte, Nat.reduceEqDiff, Option.map, h0, h5, h6, h7, h8, h9, gp, w1, w2, w3, w4, w5, w6, w7] | refine And.intro (by omega) ?_))
      refine s_ints1 (n := a1) (by simp only [vm, ite_true, ite_false, eq_self, reduceIte, Nat.reduceEqDiff, Option.map]) ?_
      refine s_appI (u := .id c4) (n := w.length) (cap := none) (ps := w) (qs := [a1]) (by simp only [vm, ite_true, ite_false, eq_self, reduceIte, Nat.reduceEqDiff, Option.map, h6]) (by omega) rfl (by simp only [vm, ite_true, ite_false, eq_self, reduceIte, Nat.reduceEqDiff, Option.map]) (by simp; omega) ?_
      (repeat (first | refine v_reg ?_ | refine v_last ?_ | refine vwp_seq ?_ | refine vwp_block ?_ | refine vwp_skip ?_ | refine vwp_exit ?_ | refine vwp_ret ?_ | refine v_cond ?_ | simp only [vm, ite_true, ite_false, eq_self, reduceIte, Nat.reduceEqDiff, Option.map, killR_at, killR_lit, killR_sl, h0, h5, h7, h8, h9] | refine And.intro (by omega) ?_))
      exact ⟨l - (i + 1), by omega, i + 1, rfl, by omega, by rw [em1], by rw [ed1], by rw [ea1], by rw [hsucc]; exact .inr ⟨tb, by simp, rfl, htb, by omega⟩, by omega⟩
  rintro ⟨ρ4, σ, c5⟩ ⟨h5, hgr, hc5⟩
  dsimp only at h5 hgr hc5
  rcases hgr with ⟨hw0, _, _⟩ | ⟨tb, h6, hσ, htb, htb2⟩
  · have := cl_len n f l
    rw [hw0, List.length_nil] at this
    have := hp.one
    omega
  subst hσ
  refine vwp_freeze 6 tb 0 (cl n f l).length 1 none (ivs (cl n f l)) h6 (supd_same _ _ _) (by omega) (by simp) ?_
  rw [frz_ivs _ _ _ _ _ _ rfl]
  (repeat (first | refine v_reg ?_ | refine v_last ?_ | refine vwp_seq ?_ | refine vwp_block ?_ | refine vwp_skip ?_ | refine vwp_exit ?_ | refine vwp_ret ?_ | refine v_cond ?_ | simp only [vm, ite_true, ite_false, eq_self, reduceIte, Nat.reduceEqDiff, Option.map, h5] | refine And.intro (by omega) ?_))
  exact ⟨fun h => by rcases h with h | h <;> first | exact h.elim | omega, fun _ _ => ⟨f, by omega, hf2, .inr ⟨hsq, l, tb, hp, hlb, rfl, by omega, by omega⟩⟩⟩

theorem chain04_spec (n : Int) (c : Nat) : VSpec Try.prog F.surdref04_Chain c [iv n] (fun r c' => ((n < 0 ∨ 65536 < n) → r = .tup [iv 0, nil1, iv 1]) ∧ (0 ≤ n → n ≤ 65536 → ChainR c c' n.toNat r)) := by
  refine spec_mk hm E.surdref04_Chain B.surdref04_Chain K.surdref04_Chain Q.surdref04_Chain (by rw [N.surdref04_Chain]; simp) ?_
  unfold C.surdref04_Chain R.surdref04_Chain
  by_cases g1 : n < 0
  · (repeat (first | refine v_reg ?_ | refine v_last ?_ | refine vwp_seq ?_ | refine vwp_block ?_ | refine vwp_skip ?_ | refine vwp_exit ?_ | refine vwp_ret ?_ | refine v_cond ?_ | simp only [vm, ite_true, ite_false, eq_self, reduceIte, Nat.reduceEqDiff, Option.map, g1] | refine And.intro (by omega) ?_))
    exact ⟨fun _ => trivial, fun h => by omega⟩
  by_cases g2 : (65536 : Int) < n
  · (repeat (first | refine v_reg ?_ | refine v_last ?_ | refine vwp_seq ?_ | refine vwp_block ?_ | refine vwp_skip ?_ | refine vwp_exit ?_ | refine vwp_ret ?_ | refine v_cond ?_ | simp only [vm, ite_true, ite_false, eq_self, reduceIte, Nat.reduceEqDiff, Option.map, g1, g2] | refine And.intro (by omega) ?_))
    exact ⟨fun _ => trivial, fun h => by omega⟩
  obtain ⟨n, rfl⟩ : ∃ k : Nat, n = (k : Int) := ⟨n.toNat, by omega⟩
  have e0 : ((n : Int)).toNat = n := by omega
  have hn : n ≤ 65536 := by omega
  have hno : ¬ ((n : Int) < 0 ∨ (65536 : Int) < n) := by omega
  rw [e0]
  (repeat (first | refine v_reg ?_ | refine v_last ?_ | refine vwp_seq ?_ | refine vwp_block ?_ | refine vwp_skip ?_ | refine vwp_exit ?_ | refine vwp_ret ?_ | refine v_cond ?_ | simp only [vm, ite_true, ite_false, eq_self, reduceIte, Nat.reduceEqDiff, Option.map, g1, g2] | refine And.intro (by omega) ?_))
  refine v_loop (fun S => ∃ f, f * f ≤ n ∧ n < (f + 1) * (f + 1) ∧ S.ρ 0 = iv (n : Int) ∧ S.ρ 5 = iv (f : Int) ∧ S.σ = noBlk ∧ c ≤ S.c) ?_ ?_
  · refine vwp_loop (fun q S => ∃ f, q = n - f ∧ f * f ≤ n ∧ S.ρ 0 = iv (n : Int) ∧ S.ρ 5 = iv (f : Int) ∧ S.σ = noBlk ∧ c ≤ S.c) n ?_ ?_
    · exact ⟨0, by omega, by omega, rfl, rfl, rfl, Nat.le_refl _⟩
    rintro q ⟨ρ2, σ, c4⟩ ⟨f, hq, hf, h0, h5, hσ, hc4⟩
    dsimp only at h0 h5 hσ hc4
    subst hσ
    have hfn := Nat.le_trans (sq_self_le f) hf
    have e1 : (f : Int) + 1 = ((f + 1 : Nat) : Int) := by omega
    have e2 : ((f + 1 : Nat) : Int) * ((f + 1 : Nat) : Int) = (((f + 1) * (f + 1) : Nat) : Int) := (Int.natCast_mul _ _).symm
    have hb := sq_le_of (show f + 1 ≤ 65537 by omega)
    have hs := sq_self_le (f + 1)
    obtain ⟨s, hs0⟩ : ∃ s, s = (f + 1) * (f + 1) := ⟨_, rfl⟩
    rw [← hs0] at e2 hb hs
    by_cases g : (s : Int) ≤ (n : Int)
    · (repeat (first | refine v_reg ?_ | refine v_last ?_ | refine vwp_seq ?_ | refine vwp_block ?_ | refine vwp_skip ?_ | refine vwp_exit ?_ | refine vwp_ret ?_ | refine v_cond ?_ | simp only [vm, ite_true, ite_false, eq_self, reduceIte, Nat.reduceEqDiff, Option.map, h0, h5, e1, e2, g] | refine And.intro (by omega) ?_))
      exact ⟨n - (f + 1), by omega, f + 1, rfl, by omega, rfl, hc4⟩
    · (repeat (first | refine v_reg ?_ | refine v_last ?_ | refine vwp_seq ?_ | refine vwp_block ?_ | refine vwp_skip ?_ | refine vwp_exit ?_ | refine vwp_ret ?_ | refine v_cond ?_ | simp only [vm, ite_true, ite_false, eq_self, reduceIte, Nat.reduceEqDiff, Option.map, h0, h5, e1, e2, g] | refine And.intro (by omega) ?_))
      exact ⟨f, hf, by omega, rfl, hc4⟩
  rintro ⟨ρ3, σ, c1⟩ ⟨f, hf1, hf2, h0, h5, hσ, hc1⟩
  dsimp only at h0 h5 hσ hc1
  subst hσ
  have hfn := Nat.le_trans (sq_self_le f) hf1
  have e1 : (f : Int) * (f : Int) = ((f * f : Nat) : Int) := (Int.natCast_mul _ _).symm
  obtain ⟨s, hs0⟩ : ∃ s, s = f * f := ⟨_, rfl⟩
  rw [← hs0] at e1 hf1
  by_cases g : (s : Int) = (n : Int)
  · (repeat (first | refine v_reg ?_ | refine v_last ?_ | refine vwp_seq ?_ | refine vwp_block ?_ | refine vwp_skip ?_ | refine vwp_exit ?_ | refine vwp_ret ?_ | refine v_cond ?_ | simp only [vm, ite_true, ite_false, eq_self, reduceIte, Nat.reduceEqDiff, Option.map, h0, h5, e1, g] | refine And.intro (by omega) ?_))
    exact ⟨fun h => by rcases h with h | h <;> first | exact h.elim | omega, fun _ _ => ⟨f, by omega, hf2, .inl ⟨by omega, rfl⟩⟩⟩
  have hsq : Sq n f := ⟨by
    rcases Nat.eq_zero_or_pos f with h | h
    · rw [h] at hf2 hs0; omega
    · exact h, by omega, hf2⟩
  have hf255 : f ≤ 255 := by
    rcases Nat.lt_or_ge f 256 with h | h
    · omega
    · have := sq_le_of h; omega
  obtain ⟨l, hl, hp⟩ := per_exists hsq
  have hlb := per_len hsq hf255 hp
  (repeat (first | refine v_reg ?_ | refine v_last ?_ | refine vwp_seq ?_ | refine vwp_block ?_ | refine vwp_skip ?_ | refine vwp_exit ?_ | refine vwp_ret ?_ | refine v_cond ?_ | simp only [vm, ite_true, ite_false, eq_self, reduceIte, Nat.reduceEqDiff, Option.map, h0, h5, e1, g] | refine And.intro (by omega) ?_))
  · refine vwp_loop (fun q S => ∃ i, q = l - i ∧ i < l ∧ S.ρ 0 = iv (n : Int) ∧ S.ρ 5 = iv (f : Int) ∧ S.ρ 7 = iv ((sm n f i).1 : Int) ∧ S.ρ 8 = iv ((sm n f i).2 : Int) ∧ S.ρ 9 = iv (pq n f i : Int) ∧ Grown (S.ρ 6) S.σ c1 S.c (cl n f i) ∧ c1 ≤ S.c) l ?_ ?_
    · exact ⟨0, by omega, hp.one, h0, h5, rfl, rfl, by rw [pq_zero]; rfl, .inl ⟨rfl, rfl, rfl⟩, Nat.le_refl _⟩
    rintro q ⟨ρ2, σ, c4⟩ ⟨i, hq, hi, h0, h5, h7, h8, h9, hgr, hc4⟩
    dsimp only at h0 h5 h7 h8 h9 hgr hc4
    obtain ⟨q1, r1, b1, b2, b3, b4, b5, b6, b7, w1, w2, w3, w4, w5, w6, w7⟩ := step_int hsq hn i
    rw [Int.mul_comm] at w1
    have pb := (pq_bound hsq i).2
    have pb1 := (pq_bound hsq (i + 1)).2
    have hsucc := cl_succ n f i
    have hlen := cl_len n f i
    have gp : (pq n f (i + 1) : Int) = 2 * (f : Int) ↔ i + 1 = l := by
      constructor
      · intro h
        rcases Nat.lt_or_ge (i + 1) l with h2 | h2
        · exact absurd (show pq n f (i + 1) = 2 * f by omega) (pq_no hsq hp (by omega) h2)
        · omega
      · intro h
        have := pq_end hsq hp
        rw [← h] at this
        omega
    generalize em : (sm n f i).1 = m at *
    generalize em1 : (sm n f (i + 1)).1 = m1 at *
    generalize ed : (sm n f i).2 = d at *
    generalize ed1 : (sm n f (i + 1)).2 = d1 at *
    generalize ea : pq n f i = a at *
    generalize ea1 : pq n f (i + 1) = a1 at *
    obtain ⟨w, hw⟩ : ∃ w, w = cl n f i := ⟨_, rfl⟩
    rw [← hw] at hgr hsucc hlen
    by_cases gl : i + 1 = l
    · have gp1 := gp.2 gl
      rw [gl] at hsucc
      rcases hgr with ⟨hw0, h6, hσ⟩ | ⟨tb, h6, hσ, htb, htb2⟩
      · rw [hw0] at hsucc
        subst hσ
        (repeat (first | refine v_reg ?_ | refine v_last ?_ | refine vwp_seq ?_ | refine vwp_block ?_ | refine vwp_skip ?_ | refine vwp_exit ?_ | refine vwp_ret ?_ | refine v_cond ?_ | simp only [vm, ite_true, ite_false, eq_self, reduceIte, Nat.reduceEqDiff, Option.map, h0, h5, h6, h7, h8, h9, w1, w2, w3, w4, w5, w6, w7] | refine And.intro (by omega) ?_))
        refine s_ints1 (n := a1) (by simp only [vm, ite_true, ite_false, eq_self, reduceIte, Nat.reduceEqDiff, Option.map]) ?_
        refine s_app0I (u := .id c4) (ys := [a1]) (by simp only [vm, ite_true, ite_false, eq_self, reduceIte, Nat.reduceEqDiff, Option.map, h6]) (by simp only [vm, ite_true, ite_false, eq_self, reduceIte, Nat.reduceEqDiff, Option.map]) (Nat.zero_lt_one) (by simp) ?_
        simp only [vm, ite_true, ite_false, eq_self, reduceIte, Nat.reduceEqDiff, Option.map, h0, h5, h7, h8, h9]
        refine vwp_freeze 6 (c4 + 1) 0 [a1].length 1 none (ivs [a1]) rfl (supd_same _ _ _) (by omega) (by simp) ?_
        rw [frz_ivs _ _ _ _ _ _ rfl]
        (repeat (first | refine v_reg ?_ | refine v_last ?_ | refine vwp_seq ?_ | refine vwp_block ?_ | refine vwp_skip ?_ | refine vwp_exit ?_ | refine vwp_ret ?_ | refine v_cond ?_ | simp only [vm, ite_true, ite_false, eq_self, reduceIte, Nat.reduceEqDiff, Option.map, h0, h5, h7, h8, h9, gp1] | refine And.intro (by omega) ?_))
        exact ⟨fun h => by rcases h with h | h <;> first | exact h.elim | omega, fun _ _ => ⟨f, by omega, hf2, .inr ⟨hsq, l, c4 + 1, hp, hlb, by rw [hsucc]; rfl, by omega, by omega⟩⟩⟩
      · subst hσ
        (repeat (first | refine v_reg ?_ | refine v_last ?_ | refine vwp_seq ?_ | refine vwp_block ?_ | refine vwp_skip ?_ | refine vwp_exit ?_ | refine vwp_ret ?_ | refine v_cond ?_ | simp only [vm, ite_true, ite_false, eq_self, reduceIte, Nat.reduceEqDiff, Option.map, h0, h5, h6, h7, h8, h9, w1, w2, w3, w4, w5, w6, w7] | refine And.intro (by omega) ?_))
        refine s_ints1 (n := a1) (by simp only [vm, ite_true, ite_false, eq_self, reduceIte, Nat.reduceEqDiff, Option.map]) ?_
        refine s_appI (u := .id c4) (n := w.length) (cap := none) (ps := w) (qs := [a1]) (by simp only [vm, ite_true, ite_false, eq_self, reduceIte, Nat.reduceEqDiff, Option.map, h6]) (by omega) rfl (by simp only [vm, ite_true, ite_false, eq_self, reduceIte, Nat.reduceEqDiff, Option.map]) (by simp; omega) ?_
        simp only [vm, ite_true, ite_false, eq_self, reduceIte, Nat.reduceEqDiff, Option.map, killR_at, killR_lit, killR_sl, h0, h5, h7, h8, h9]
        refine vwp_freeze 6 tb 0 (w.length + [a1].length) 1 none (ivs (w ++ [a1])) rfl (supd_same _ _ _) (by omega) (by simp) ?_
        rw [frz_ivs _ _ _ _ _ _ (by simp)]
        (repeat (first | refine v_reg ?_ | refine v_last ?_ | refine vwp_seq ?_ | refine vwp_block ?_ | refine vwp_skip ?_ | refine vwp_exit ?_ | refine vwp_ret ?_ | refine v_cond ?_ | simp only [vm, ite_true, ite_false, eq_self, reduceIte, Nat.reduceEqDiff, Option.map, killR_at, killR_lit, killR_sl, h0, h5, h7, h8, h9, gp1] | refine And.intro (by omega) ?_))
        exact ⟨fun h => by rcases h with h | h <;> first | exact h.elim | omega, fun _ _ => ⟨f, by omega, hf2, .inr ⟨hsq, l, tb, hp, hlb, by rw [hsucc], by omega, by omega⟩⟩⟩
    have gp1 : ¬ (a1 : Int) = 2 * (f : Int) := fun h => gl (gp.1 h)
    rcases hgr with ⟨hw0, h6, hσ⟩ | ⟨tb, h6, hσ, htb, htb2⟩
    · rw [hw0] at hsucc
      subst hσ
      (repeat (first | refine v_reg ?_ | refine v_last ?_ | refine vwp_seq ?_ | refine vwp_block ?_ | refine vwp_skip ?_ | refine vwp_exit ?_ | refine vwp_ret ?_ | refine v_cond ?_ | simp only [vm, ite_true, ite_false, eq_self, reduceIte, Nat.reduceEqDiff, Option.map, h0, h5, h6, h7, h8, h9, w1, w2, w3, w4, w5, w6, w7] | refine And.intro (by omega) ?_))
      refine s_ints1 (n := a1) (by simp only [vm, ite_true, ite_false, eq_self, reduceIte, Nat.reduceEqDiff, Option.map]) ?_
      refine s_app0I (u := .id c4) (ys := [a1]) (by simp only [vm, ite_true, ite_false, eq_self, reduceIte, Nat.reduceEqDiff, Option.map, h6]) (by simp only [vm, ite_true, ite_false, eq_self, reduceIte, Nat.reduceEqDiff, Option.map]) (Nat.zero_lt_one) (by simp) ?_
      (repeat (first | refine v_reg ?_ | refine v_last ?_ | refine vwp_seq ?_ | refine vwp_block ?_ | refine vwp_skip ?_ | refine vwp_exit ?_ | refine vwp_ret ?_ | refine v_cond ?_ | simp only [vm, ite_true, ite_false, eq_self, reduceIte, Nat.reduceEqDiff, Option.map, h0, h5, h7, h8, h9, gp1] | refine And.intro (by omega) ?_))
      exact ⟨l - (i + 1), by omega, i + 1, rfl, by omega, by rw [em1], by rw [ed1], by rw [ea1], by rw [hsucc]; exact .inr ⟨c4 + 1, rfl, rfl, by omega, by omega⟩, by omega⟩
    · subst hσ
      (repeat (first | refine v_reg ?_ | refine v_last ?_ | refine vwp_seq ?_ | refine vwp_block ?_ | refine vwp_skip ?_ | refine vwp_exit ?_ | refine vwp_ret ?_ | refine v_cond ?_ | simp only [vm, ite_true, ite_false, eq_self, reduceIte, Nat.reduceEqDiff, Option.map, h0, h5, h6, h7, h8, h9, w1, w2, w3, w4, w5, w6, w7] | refine And.intro (by omega) ?_))
      refine s_ints1 (n := a1) (by simp only [vm, ite_true, ite_false, eq_self, reduceIte, Nat.reduceEqDiff, Option.map]) ?_
      refine s_appI (u := .id c4) (n := w.length) (cap := none) (ps := w) (qs := [a1]) (by simp only [vm, ite_true, ite_false, eq_self, reduceIte, Nat.reduceEqDiff, Option.map, h6]) (by omega) rfl (by simp only [vm, ite_true, ite_false, eq_self, reduceIte, Nat.reduceEqDiff, Option.map]) (by simp; omega) ?_
      (repeat (first | refine v_reg ?_ | refine v_last ?_ | refine vwp_seq ?_ | refine vwp_block ?_ | refine vwp_skip ?_ | refine vwp_exit ?_ | refine vwp_ret ?_ | refine v_cond ?_ | simp only [vm, ite_true, ite_false, eq_self, reduceIte, Nat.reduceEqDiff, Option.map, killR_at, killR_lit, killR_sl, h0, h5, h7, h8, h9, gp1] | refine And.intro (by omega) ?_))
      exact ⟨l - (i + 1), by omega, i + 1, rfl, by omega, by rw [em1], by rw [ed1], by rw [ea1], by rw [hsucc]; exact .inr ⟨tb, by simp, rfl, htb, by omega⟩, by omega⟩
end Go.Proofs.Ytladcfeibpddeab
