/- Texts of a claim, merged: what they prove is told at the last one's head. -/
import Derived.Test.YtcafgpconlkecaaGreatDoorLaM5
import Derived.KernelRfl
set_option linter.unusedVariables false
set_option linter.unusedSimpArgs false
set_option maxRecDepth 100000
set_option maxHeartbeats 60000000
namespace Go.VM

section
variable {α : Type}
def fN (n : Nat) (k : Nat → α) : α := match n with | 0 => k 0 | m + 1 => k (Nat.succ m)
theorem fN_eq (n : Nat) (k : Nat → α) : fN n k = k n := by cases n <;> rfl
def fI (n : Int) (k : Int → α) : α := match n with | .ofNat m => fN m fun m => k (.ofNat m) | .negSucc m => fN m fun m => k (.negSucc m)
theorem fI_eq (n : Int) (k : Int → α) : fI n k = k n := by cases n <;> simp only [fI, fN_eq]
def fU (v : Value) (k : Value → α) : α := match v with
  | .int t n => fI n fun n => k (.int t n)
  | .bool true => k (.bool true)
  | .bool false => k (.bool false)
  | v => k v
theorem fU_eq (v : Value) (k : Value → α) : fU v k = k v := by
  unfold fU
  split <;> simp only [fI_eq]
def fL {β : Type} (l : List β) (k : List β → α) : α := match l with | [] => k [] | x :: xs => fL xs fun xs => k (x :: xs)
theorem fL_eq {β : Type} (l : List β) (k : List β → α) : fL l k = k l := by
  induction l generalizing k with
  | nil => rfl
  | cons x xs ih => rw [fL, ih]
def fO (o : Option Nat) (k : Option Nat → α) : α := match o with | none => k none | some n => fN n fun n => k (some n)
theorem fO_eq (o : Option Nat) (k : Option Nat → α) : fO o k = k o := by cases o <;> simp only [fO, fN_eq]
def fT (t : Tok) (k : Tok → α) : α := match t with | .nil => k .nil | .unk => k .unk | .id n => fN n fun n => k (.id n) | .sub n => fN n fun n => k (.sub n)
theorem fT_eq (t : Tok) (k : Tok → α) : fT t k = k t := by cases t <;> simp only [fT, fN_eq]
def fV (v : V) (k : V → α) : α := match v with
  | .any => k .any
  | .lit v => fU v fun v => k (.lit v)
  | .sl t sz l => fT t fun t => fN sz fun sz => fL l fun l => k (.sl t sz l)
  | .buf t off n cap sz => fN t fun t => fN off fun off => fN n fun n => fO cap fun cap => fN sz fun sz => k (.buf t off n cap sz)
  | .ptr t off => fN t fun t => fN off fun off => k (.ptr t off)
  | .gptr t off => fN t fun t => fN off fun off => k (.gptr t off)
  | .eptr l i => fL l fun l => fN i fun i => k (.eptr l i)
  | .agg l => fL l fun l => k (.agg l)
  | .tup l => fL l fun l => k (.tup l)
theorem fV_eq (v : V) (k : V → α) : fV v k = k v := by cases v <;> simp only [fV, fU_eq, fT_eq, fN_eq, fL_eq, fO_eq]
end

def nth (l : List V) (i : Nat) : V := match l, i with | [], _ => .any | x :: _, 0 => x | _ :: xs, i + 1 => nth xs i
theorem nth_getD (l : List V) (i : Nat) : nth l i = l.getD i .any := by
  induction l generalizing i with
  | nil => rfl
  | cons x xs ih => cases i with
    | zero => rfl
    | succ i => rw [nth, ih]; rfl
theorem start_nth (l : List V) : start l = nth l := by funext i; rw [nth_getD]; rfl
theorem nth_append_any (l : List V) (n : Nat) : nth (l ++ List.replicate n .any) = nth l := by
  funext i
  rw [nth_getD, nth_getD, List.getD_eq_getElem?_getD, List.getD_eq_getElem?_getD, List.getElem?_append]
  split
  · rfl
  · rename_i h
    rw [List.getElem?_eq_none (Nat.le_of_not_lt h), List.getElem?_replicate]
    split <;> rfl
def setR {β : Type} (l : List V) (i : Nat) (v : V) (k : List V → Option β) : Option β := match l, i with
  | [], _ => none
  | _ :: xs, 0 => k (v :: xs)
  | x :: xs, i + 1 => setR xs i v fun xs => k (x :: xs)
theorem setR_some {β : Type} {l : List V} {i : Nat} {v : V} {k : List V → Option β} {b : β} (h : setR l i v k = some b) : ∃ l', k l' = some b ∧ nth l' = upd (nth l) i v := by
  induction l generalizing i k with
  | nil => cases h
  | cons x xs ih =>
    cases i with
    | zero =>
      refine ⟨_, h, ?_⟩
      funext j
      cases j with
      | zero => rfl
      | succ j => rfl
    | succ i =>
      obtain ⟨l', h1, h2⟩ := ih h
      refine ⟨x :: l', h1, ?_⟩
      funext j
      cases j with
      | zero => rfl
      | succ j =>
        rw [nth, h2]
        simp [upd, nth]

abbrev BL := List (Nat × Blk)
def lookB (l : BL) (t : Nat) : Option Blk := match l with | [] => none | p :: r => if p.1 = t then some p.2 else lookB r t
def putB (l : BL) (t : Nat) (b : Blk) : BL := match l with | [] => [(t, b)] | p :: r => if p.1 = t then (t, b) :: r else p :: putB r t b
theorem lookB_nil : lookB [] = noBlk := rfl
theorem lookB_put (l : BL) (t : Nat) (b : Blk) : lookB (putB l t b) = supd (lookB l) t (some b) := by
  funext u
  induction l with
  | nil => simp only [putB, lookB, supd]; by_cases e : t = u <;> simp [e, eq_comm]
  | cons p r ih =>
    obtain ⟨t', b'⟩ := p
    simp only [putB]
    by_cases e : t' = t
    · subst e
      simp only [if_true, lookB, supd]
      by_cases e : t' = u
      · simp [e]
      · simp [e, Ne.symm e]
    · simp only [e, if_false, lookB, ih, supd]
      by_cases e1 : t' = u
      · subst e1; simp [e]
      · simp [e1]
def keepB (p : Nat → Bool) (l : BL) : BL := match l with | [] => [] | q :: r => if p q.1 = true then q :: keepB p r else keepB p r
theorem lookB_keep (p : Nat → Bool) (l : BL) (t : Nat) : lookB (keepB p l) t = if p t = true then lookB l t else none := by
  induction l with
  | nil => simp [keepB, lookB]
  | cons q r ih =>
    simp only [keepB]
    by_cases h : p q.1 = true
    · simp only [h, if_true, lookB, ih]
      by_cases e : q.1 = t
      · subst e; simp [h]
      · simp [e]
    · simp only [h, lookB]
      by_cases e : q.1 = t
      · subst e; simp [ih, h]
      · simp [e, ih]
theorem lookB_append (l r : BL) (t : Nat) : lookB (l ++ r) t = match lookB l t with | some b => some b | none => lookB r t := by
  induction l with
  | nil => rfl
  | cons q l ih =>
    simp only [List.cons_append, lookB]
    by_cases e : q.1 = t
    · simp [e]
    · simp [e, ih]

structure XS where
  r : List V
  s : BL
  c : Nat
def XS.vs (S : XS) : VS := ⟨nth S.r, lookB S.s, S.c⟩

structure XEff where
  v : V
  s : BL
  c : Nat
  k : KT

def flatB (s : BL) : Bool := match s with | [] => true | p :: r => if p.2.cells.all V.flat = true then flatB r else false
theorem flat_kill {x : V} (t : Nat) (h : x.flat = true) : killV t x = x := by
  cases x <;> first | rfl | cases h
theorem flat_killL {l : List V} (t : Nat) (h : l.all V.flat = true) : l.map (killV t) = l := by
  refine (List.map_congr_left fun x hx => ?_).trans (List.map_id _)
  exact flat_kill t (List.all_eq_true.1 h x hx)
theorem flat_solid {l : List V} (h : l.all V.flat = true) : l.map V.solid = l := by
  refine (List.map_congr_left fun x hx => ?_).trans (List.map_id _)
  unfold V.solid
  rw [if_pos (List.all_eq_true.1 h x hx)]
  rfl
theorem flatB_look {s : BL} (h : flatB s = true) {t : Nat} {b : Blk} (hb : lookB s t = some b) : b.cells.all V.flat = true := by
  induction s with
  | nil => cases hb
  | cons p r ih =>
    simp only [flatB] at h
    split at h
    · rename_i hp
      simp only [lookB] at hb
      split at hb
      · cases hb; exact hp
      · exact ih h hb
    · cases h
theorem flatB_kill {s : BL} (h : flatB s = true) (t : Nat) : killσ t (lookB s) = lookB s := by
  funext u
  unfold killσ
  cases hb : lookB s u with
  | none => rfl
  | some b => simp only [Option.map]; rw [flat_killL t (flatB_look h hb)]
theorem all_take {l : List V} (n : Nat) (h : l.all V.flat = true) : (l.take n).all V.flat = true := List.all_eq_true.2 fun x hx => List.all_eq_true.1 h x (List.mem_of_mem_take hx)
theorem all_app {l r : List V} (h : l.all V.flat = true) (h2 : r.all V.flat = true) : (l ++ r).all V.flat = true := by rw [List.all_append, h, h2]; rfl
def xstore (s : BL) (n : Nat) (x v : V) : Option BL :=
  match x, v.cellsB with
  | .ptr t off, some cs => match lookB s t with
    | some b => if b.live = true ∧ cs.length = n ∧ off + n ≤ b.cells.length then fL (putCells b.cells off cs) fun cs => some (putB s t ⟨cs, true⟩) else none
    | none => none
  | _, _ => none
def xapp (c0 : Nat) (s : BL) (c sz bytes : Nat) (x y : V) : Option XEff :=
  match x with
  | .sl .nil sz0 [] => match vcells sz (lookB s) y with
    | some [] => some ⟨.sl .nil sz0 [], s, c, none⟩
    | some ys => let k := ys.length / sz; if ys.length = k * sz ∧ 0 < k ∧ k * bytes ≤ 281474976710656 ∧ k ≤ 4611686018427387904 then fL ys fun ys => some ⟨.buf c 0 k none sz, putB s c ⟨ys, true⟩, c + 1, none⟩ else none
    | none => none
  | .buf t 0 n cp sz' => match lookB s t, vcells sz (lookB s) y with
    | some b, some ys => let k := ys.length / sz; if sz' = sz ∧ b.live = true ∧ ys.length = k * sz then
        (match cp with
        | some cap => if n + k ≤ cap ∧ (n + k) * sz ≤ b.cells.length then fL (putCells b.cells (n * sz) ys) fun cs => some ⟨.buf t 0 (n + k) (some cap) sz, putB s t ⟨cs, true⟩, c, none⟩
          else if c0 ≤ t ∧ n * sz ≤ b.cells.length ∧ (2 * (n + k)) * bytes ≤ 281474976710656 ∧ n + k ≤ 4611686018427387904 ∧ flatB s = true ∧ ys.all V.flat = true then fL (b.cells.take (n * sz) ++ ys) fun cs => some ⟨.buf t 0 (n + k) none sz, putB s t ⟨cs, true⟩, c, some (.inl t)⟩ else none
        | none => if c0 ≤ t ∧ n * sz ≤ b.cells.length ∧ (2 * (n + k)) * bytes ≤ 281474976710656 ∧ n + k ≤ 4611686018427387904 ∧ flatB s = true ∧ ys.all V.flat = true then fL (b.cells.take (n * sz) ++ ys) fun cs => some ⟨.buf t 0 (n + k) none sz, putB s t ⟨cs, true⟩, c, some (.inl t)⟩ else none)
      else none
    | _, _ => none
  | _ => none
def xcpy (s : BL) (c sz : Nat) (x y : V) : Option XEff :=
  match x with
  | .buf t off n cap sz' => match lookB s t, vcells sz (lookB s) y with
    | some b, some ys => let m := ys.length / sz; if sz' = sz ∧ b.live = true ∧ ys.length = m * sz ∧ off + n * sz ≤ b.cells.length then
        fL (putCells b.cells off (ys.take (min m n * sz))) fun cs => some ⟨.int .i64 ((min m n : Nat) : Int), putB s t ⟨cs, true⟩, c, none⟩ else none
    | _, _ => none
  | _ => none
def xmk (s : BL) (c : Nat) (z : List Value) (bytes : Nat) (l q : V) : Option XEff :=
  match l, q with
  | .lit (.int _ (.ofNat n)), .lit (.int _ (.ofNat cap)) => if n ≤ cap ∧ cap * bytes ≤ 281474976710656 ∧ cap ≤ 9223372036854775807 then fL (rept z cap) fun cs => some ⟨.buf c 0 n (some cap) z.length, putB s c ⟨cs, true⟩, c + 1, none⟩ else none
  | _, _ => none

def offB : V → V → Bool
  | .ptr t _, .ptr u _ => !(Nat.beq t u)
  | .ptr _ _, .eptr _ _ => true
  | _, _ => false
theorem offB_off {p q : V} (h : offB p q = true) : V.offp p q := by
  unfold offB at h
  split at h
  · exact fun e => by subst e; simp at h
  · trivial
  · cases h
def xeff (c0 : Nat) (e : X → V) (s : BL) (c : Nat) (o : VOp) : Option XEff :=
  match o with
  | .load ag x => (vload (lookB s) ag (e x)).map fun v => ⟨v, s, c, none⟩
  | .store n x y => (xstore s n (e x) (e y)).map fun s => ⟨.any, s, c, none⟩
  | .storeA n x y ys => if (ys.all fun i => offB (e x) (e (.t i))) = true then (xstore s n (e x) (e y)).map fun s => ⟨.any, s, c, none⟩ else none
  | .boxA n x => match (e x).cells, lookB s c with | some cs, none => if cs.length = n then fL cs fun cs => some ⟨.ptr c 0, putB s c ⟨cs, true⟩, c + 1, none⟩ else none | _, _ => none
  | .mk z bytes l q => xmk s c z bytes (e l) (e q)
  | .box x => match (e x).cells with | some cs => fL cs fun cs => some ⟨.ptr c 0, putB s c ⟨cs, true⟩, c + 1, none⟩ | none => none
  | .alloc z => fL (vlits z) fun cs => some ⟨.ptr c 0, putB s c ⟨cs, true⟩, c + 1, none⟩
  | .bsl tok sz len z ps => match vfill (rept z len) (partsOf e ps) with
    | some cs => if tok = true then some ⟨.sl (.id c) sz cs, s, c + 1, none⟩ else some ⟨.sl .unk sz cs, s, c, none⟩
    | none => none
  | .app sz bytes z x y => xapp c0 s c sz bytes (e x) (e y)
  | .cpy sz x y => xcpy s c sz (e x) (e y)
  | .call _ _ => none
  | .callv _ _ => none
  | .bad => none
  | o => (vpure e o).map fun v => ⟨v, s, c, none⟩

theorem xstore_sound {s s' : BL} {n : Nat} {x y : V} (h1 : xstore s n x y = some s') : vstore (lookB s) n x y = some (lookB s') := by
  unfold xstore at h1
  unfold vstore
  split at h1
  · split at h1
    · split at h1
      · rename_i hb hc
        rw [fL_eq] at h1
        cases h1
        simp only [*, lookB_put]
        rw [if_pos (by first | exact hc | simp [hc])]
      · cases h1
    · cases h1
  · cases h1
theorem xeff_sound {P : Program} {dr : Bool} {c0 : Nat} {e : X → V} {s : BL} {c : Nat} {o : VOp} {r : XEff} (h : xeff c0 e s c o = some r) : VEff P dr c0 e (lookB s) c o r.v (lookB r.s) r.c r.k := by
  unfold xeff at h
  split at h
  · obtain ⟨v, h1, rfl⟩ := Option.map_eq_some_iff.1 h
    exact .load h1
  · obtain ⟨s', h1, rfl⟩ := Option.map_eq_some_iff.1 h
    exact .store (xstore_sound h1)
  · split at h
    · rename_i hy
      obtain ⟨s', h1, rfl⟩ := Option.map_eq_some_iff.1 h
      exact .storeA (fun i hi => offB_off (List.all_eq_true.1 hy i hi)) (xstore_sound h1)
    · cases h
  · split at h
    · rename_i hc hf
      split at h
      · rename_i hn
        rw [fL_eq] at h
        cases h
        rw [lookB_put]
        exact .boxA hf hc hn
      · cases h
    · cases h
  · unfold xmk at h
    split at h
    · rename_i hl hq
      split at h
      · rename_i hc
        rw [fL_eq] at h
        cases h
        rw [lookB_put]
        exact .mk hl hq hc.1 hc.2.1 hc.2.2
      · cases h
    · cases h
  · split at h
    · rename_i hc
      rw [fL_eq] at h
      cases h
      rw [lookB_put]
      exact .box hc
    · cases h
  · rw [fL_eq] at h
    cases h
    rw [lookB_put]
    exact .alloc
  · split at h
    · rename_i hc
      split at h
      · rename_i ht; subst ht; cases h; exact .bsl hc
      · rename_i ht
        simp at ht
        subst ht; cases h; exact .bsl0 hc
    · cases h
  · rename_i sz bytes z x y
    unfold xapp at h
    split at h
    · rename_i hx
      split at h
      · rename_i hy
        cases h
        exact .appNil0 hx hy
      · rename_i ys _ hy
        dsimp only at h
        split at h
        · rename_i hc
          rw [fL_eq] at h
          cases h
          rw [lookB_put]
          exact .appNil hx hy hc.1 hc.2.1 hc.2.2.1 hc.2.2.2
        · cases h
      · cases h
    · rename_i t n cp sz' hx
      split at h
      · rename_i b ys hb hy
        dsimp only at h
        split at h
        · rename_i hc
          obtain ⟨rfl, hl, hk⟩ := hc
          have hb' : lookB s t = some ⟨b.cells, true⟩ := by rw [hb, ← hl]
          split at h
          · rename_i cap
            split at h
            · rename_i hf
              rw [fL_eq] at h
              cases h
              rw [lookB_put]
              exact .appFit hx hb' hy hk hf.1 hf.2
            · split at h
              · rename_i hf
                rw [fL_eq] at h
                cases h
                rw [lookB_put]
                exact (by have q := VEff.appMove (P := P) (dr := dr) (c0 := c0) (e := e) (σ := lookB s) (c := c) (z := z) hx hb' hf.1 hy hk hf.2.1 hf.2.2.1 hf.2.2.2.1; rw [flatB_kill hf.2.2.2.2.1, flat_killL t (all_app (all_take _ (flatB_look hf.2.2.2.2.1 hb')) hf.2.2.2.2.2)] at q; exact q)
              · cases h
          · split at h
            · rename_i hf
              rw [fL_eq] at h
              cases h
              rw [lookB_put]
              exact (by have q := VEff.appMove (P := P) (dr := dr) (c0 := c0) (e := e) (σ := lookB s) (c := c) (z := z) hx hb' hf.1 hy hk hf.2.1 hf.2.2.1 hf.2.2.2.1; rw [flatB_kill hf.2.2.2.2.1, flat_killL t (all_app (all_take _ (flatB_look hf.2.2.2.2.1 hb')) hf.2.2.2.2.2)] at q; exact q)
            · cases h
        · cases h
      · cases h
    · cases h
  · unfold xcpy at h
    split at h
    · rename_i t off n cap sz' hx
      split at h
      · rename_i b ys hb hy
        dsimp only at h
        split at h
        · rename_i hc
          obtain ⟨rfl, hl, hk, hf⟩ := hc
          have hb' : lookB s t = some ⟨b.cells, true⟩ := by rw [hb, ← hl]
          rw [fL_eq] at h
          cases h
          rw [lookB_put]
          exact .cpy hx hb' hy hk hf
        · cases h
      · cases h
    · cases h
  · cases h
  · cases h
  · cases h
  · obtain ⟨v, h1, rfl⟩ := Option.map_eq_some_iff.1 h
    exact .pure h1

def frz1 {β : Type} (c0 : Nat) (i : Nat) (S : XS) (k : XS → Option β) : Option β :=
  match nth S.r i with
  | .buf t off n cap sz => if c0 ≤ t then (match lookB S.s t with
      | some b => if off + n * sz ≤ b.cells.length ∧ ((b.cells.drop off).take (n * sz)).all V.flat = true then fL ((b.cells.drop off).take (n * sz)) fun l => setR S.r i (.sl (Tok.from off t) sz l) fun r => k ⟨r, putB S.s t ⟨b.cells, false⟩, S.c⟩ else none
      | none => none) else k S
  | _ => k S
theorem frz1_some {β : Type} {c0 i : Nat} {S : XS} {k : XS → Option β} {b : β} (h : frz1 c0 i S k = some b) : ∃ S1, k S1 = some b ∧ (S1 = S ∨ ∃ t off n sz cap cells lv, S.vs.ρ i = .buf t off n cap sz ∧ S.vs.σ t = some ⟨cells, lv⟩ ∧ c0 ≤ t ∧ off + n * sz ≤ cells.length ∧ S1.vs = frozen S.vs i t off sz cells (((cells.drop off).take (n * sz)).map V.solid)) := by
  unfold frz1 at h
  split at h
  · rename_i t off n cap sz hi
    split at h
    · rename_i h0
      split at h
      · rename_i bk hb
        split at h
        · rename_i hl
          rw [fL_eq] at h
          obtain ⟨r, h1, h2⟩ := setR_some h
          refine ⟨_, h1, .inr ⟨t, off, n, sz, cap, bk.cells, bk.live, hi, hb, h0, hl.1, ?_⟩⟩
          rw [flat_solid hl.2]
          simp only [XS.vs, frozen, h2, lookB_put]
        · cases h
      · cases h
    · exact ⟨S, h, .inl rfl⟩
  · exact ⟨S, h, .inl rfl⟩
def frzL {β : Type} (c0 : Nat) (l : List Nat) (S : XS) (k : XS → Option β) : Option β := match l with | [] => k S | i :: r => frz1 c0 i S fun S => frzL c0 r S k

theorem frzL_exec {β : Type} {P : Program} {c0 : Nat} {l : List Nat} {S : XS} {k : XS → Option β} {b : β} (h : frzL c0 l S k = some b) : ∃ S1 : XS, k S1 = some b ∧ ∀ vc e S', VExec P c0 vc S1.vs e S' → VExec P c0 vc S.vs e S' := by
  induction l generalizing S with
  | nil => exact ⟨S, h, fun _ _ _ h => h⟩
  | cons i r ih =>
    obtain ⟨S1, h1, h2⟩ := frz1_some h
    obtain ⟨S2, h3, h4⟩ := ih h1
    refine ⟨S2, h3, fun vc e S' hs => ?_⟩
    have h5 := h4 vc e S' hs
    rcases h2 with rfl | ⟨t, off, n, sz, cap, cells, lv, g1, g2, g3, g4, g5⟩
    · exact h5
    · exact .freeze g1 g2 g3 g4 (by rw [← g5]; exact h5)

def lentB (s : BL) (l : List V) : BL := match l with
  | [] => []
  | .buf t _ _ _ _ :: r => (match lookB s t with | some b => if b.live = true then putB (lentB s r) t b else lentB s r | none => lentB s r)
  | .ptr t _ :: r => (match lookB s t with | some b => if b.live = true then putB (lentB s r) t b else lentB s r | none => lentB s r)
  | _ :: r => lentB s r
theorem lentB_ok (s : BL) (l : List V) (t : Nat) (b : Blk) (h : lookB (lentB s l) t = some b) : lookB s t = some b ∧ b.live = true := by
  have key : ∀ (t : Nat) (b : Blk) (r : List V) (t' : Nat), (∀ t b, lookB (lentB s r) t = some b → lookB s t = some b ∧ b.live = true) →
      lookB (match lookB s t' with | some b => if b.live = true then putB (lentB s r) t' b else lentB s r | none => lentB s r) t = some b → lookB s t = some b ∧ b.live = true := by
    intro t b r t' ih h
    split at h
    · rename_i b' hb
      split at h
      · rename_i hl
        rw [lookB_put] at h
        simp only [supd] at h
        split at h
        · rename_i e; subst e; cases h; exact ⟨hb, hl⟩
        · exact ih _ _ h
      · exact ih _ _ h
    · exact ih _ _ h
  revert t b
  induction l with
  | nil => intro t b h; cases h
  | cons x r ih =>
    intro t b h
    cases x with
    | buf t' off n cap sz => exact key t b r t' (fun t b h => ih t b h) h
    | ptr t' off => exact key t b r t' (fun t b h => ih t b h) h
    | any => exact ih t b h
    | lit _ => exact ih t b h
    | sl _ _ _ => exact ih t b h
    | eptr _ _ => exact ih t b h
    | gptr _ _ => exact ih t b h
    | agg _ => exact ih t b h
    | tup _ => exact ih t b h

structure XRes where
  v : V
  s : BL
  c : Nat
abbrev XCall := FuncId → List V → BL → Nat → Option XRes
def CallOk (P : Program) (call : XCall) : Prop := ∀ f xs sl c r, call f xs sl c = some r → VCalls P f c (lookB sl) xs r.v (lookB r.s) r.c ∧ ∀ t, lookB sl t = none → lookB r.s t = none

def xput {β : Type} (d : Option Nat) (v : V) (r : List V) (k : List V → Option β) : Option β := match d with | none => k r | some i => fV v fun v => setR r i v k
theorem xput_some {β : Type} {d : Option Nat} {v : V} {r : List V} {k : List V → Option β} {b : β} (h : xput d v r k = some b) : ∃ r', k r' = some b ∧ nth r' = updo (nth r) d v := by
  cases d with
  | none => exact ⟨r, h, rfl⟩
  | some i =>
    simp only [xput, fV_eq] at h
    exact setR_some h

def killR (t : Nat) (l : List V) : List V := match l with | [] => [] | x :: xs => killV t x :: killR t xs
theorem nth_kill (t : Nat) (l : List V) : nth (killR t l) = kill (some (.inl t)) (nth l) := by
  funext i
  induction l generalizing i with
  | nil => rfl
  | cons x xs ih =>
    cases i with
    | zero => rfl
    | succ i => exact ih i

def xcallop {β : Type} (call : XCall) (dr : Bool) (lend : FuncId → Bool) (c0 : Nat) (f : FuncId) (xs : List X) (d : Option Nat) (S : XS) (k : XS → Option β) : Option β :=
  (if dr = true ∨ lend f = true then fun k => k S else frzL c0 (xs.flatMap X.reads) S) fun S =>
    let ys := xs.map (X.ev (nth S.r))
    let sl := if dr = true then [] else lentB S.s ys
    match sl with
    | [] => (match call f ys [] S.c with
      | some ⟨v, _, c'⟩ => fN c' fun c' => xput d v S.r fun r => k ⟨r, S.s, c'⟩
      | none => none)
    | sl => (match call f ys sl S.c with
      | some ⟨v, s', c'⟩ => fN c' fun c' => fL (keepB (fun t => !((lookB sl t).isSome || decide (S.c ≤ t))) S.s ++ s') fun s => xput d v S.r fun r => k ⟨r, s, c'⟩
      | none => none)

def asFn (v : V) : Option FuncId := match v with | .lit (.func (.func f) a b) => if a.size = 0 ∧ b.size = 0 then some f else none | _ => none
theorem asFn_some {v : V} {f : FuncId} (h : asFn v = some f) : v = .lit (.func (.func f) #[] #[]) := by
  unfold asFn at h
  split at h
  · split at h
    · rename_i f' a b g
      cases h
      rw [Array.eq_empty_of_size_eq_zero g.1, Array.eq_empty_of_size_eq_zero g.2]
    · cases h
  · cases h
def xstep {β : Type} (call : XCall) (dr : Bool) (lend : FuncId → Bool) (c0 : Nat) (op : VOp) (d : Option Nat) (S : XS) (k : XS → Option β) : Option β :=
  match op with
  | .call f xs => xcallop call dr lend c0 f xs d S k
  | .callv x xs => (if dr = true then fun k => k S else frzL c0 (xs.flatMap X.reads) S) fun S =>
      (match asFn (x.ev (nth S.r)) with
      | some f => (match call f (xs.map (X.ev (nth S.r))) [] S.c with
        | some ⟨v, _, c'⟩ => fN c' fun c' => xput d v S.r fun r => k ⟨r, S.s, c'⟩
        | none => none)
      | none => none)
  | op => (if dr = true then fun k => k S else (match op with | .build .. | .bsl .. | .store .. | .box .. => frzL c0 op.reads S | _ => fun k => k S)) fun S =>
    (match xeff c0 (X.ev (nth S.r)) S.s S.c op with
    | some ⟨v, s, c, none⟩ => xput d v S.r fun r => k ⟨r, s, c⟩
    | some ⟨v, s, c, some (.inl t)⟩ => fL (killR t S.r) fun r => xput d v r fun r => k ⟨r, s, c⟩
    | _ => none)

def xops (call : XCall) (dr : Bool) (lend : FuncId → Bool) (c0 : Nat) (l : List VO) (S : XS) : Option XS :=
  match l with
  | [] => some S
  | ⟨d, op, none⟩ :: r => xstep call dr lend c0 op d S fun S => xops call dr lend c0 r S
  | ⟨d, op, some (t, b)⟩ :: r => match nth S.r t with
    | .lit (.bool b') => if b' = b then xstep call dr lend c0 op d S fun S => xops call dr lend c0 r S else xput d (.tup []) S.r fun rr => xops call dr lend c0 r ⟨rr, S.s, S.c⟩
    | .tup [] => xput d (.tup []) S.r fun rr => xops call dr lend c0 r ⟨rr, S.s, S.c⟩
    | _ => none

structure XOut where
  e : VEx
  S : XS
def frzOf (l : List VO) : List Nat := l.flatMap fun o => match o.op with | .call .. | .callv .. | .build .. | .bsl .. | .store .. | .box .. => o.op.reads | _ => []
def xrun (call : XCall) (lend : FuncId → Bool) (rsl : List Nat) (c0 : Nat) (n : Nat) (vc : VC) (S : XS) : Option XOut :=
  match n with
  | 0 => none
  | n + 1 => match vc with
    | .skip => some ⟨.normal, S⟩
    | .region dr ops => (if dr = true then frzL c0 (frzOf ops) S else fun k => k S) fun S =>
      (match xops call dr lend c0 ops S with | some S => some ⟨.normal, S⟩ | none => none)
    | .seq a b => match xrun call lend rsl c0 n a S with
      | some ⟨.normal, S⟩ => xrun call lend rsl c0 n b S
      | r => r
    | .cond x a b => match x.ev (nth S.r) with
      | .lit (.bool true) => xrun call lend rsl c0 n a S
      | .lit (.bool false) => xrun call lend rsl c0 n b S
      | _ => none
    | .block id b => match xrun call lend rsl c0 n b S with
      | some ⟨.exit j, S⟩ => if j = id then some ⟨.normal, S⟩ else some ⟨.exit j, S⟩
      | r => r
    | .loop b => match xrun call lend rsl c0 n b S with
      | some ⟨.normal, S⟩ => xrun call lend rsl c0 n (.loop b) S
      | r => r
    | .exit id => some ⟨.exit id, S⟩
    | .ret => frzL c0 rsl S fun S => some ⟨.ret, S⟩
    | .bad => none

structure XFun where
  f : FuncId
  vc : VC
  rs : List VRes
  n : Nat
def findF (l : List XFun) (f : FuncId) : Option XFun := match l with | [] => none | e :: r => if Nat.beq e.f f = true then some e else findF r f
def resSlots : List VRes → List Nat | [] => [] | .tmp t :: r => t :: resSlots r | _ :: r => resSlots r

abbrev XOrc := FuncId → List V → Option V
def OrcOk (P : Program) (orc : XOrc) : Prop := ∀ f xs v, orc f xs = some v → ∀ c, VCallP P f c xs v c
def askO (orc : XOrc) (f : FuncId) (xs : List V) (sl : BL) : Option V := match sl with | [] => orc f xs | _ => none

def xcall (orc : XOrc) (T : List XFun) (lend : FuncId → Bool) (rounds : Nat) : Nat → XCall
  | 0 => fun _ _ _ _ => none
  | n + 1 => fun f xs sl c => match findF T f with
    | none => none
    | some ⟨_, vc, rs, m⟩ => match askO orc f xs sl with
    | some v => some ⟨v, [], c⟩
    | none => if xs.length ≤ m then
      (match fL (xs ++ List.replicate (m - xs.length) .any) fun r => xrun (xcall orc T lend rounds n) lend (resSlots rs) c rounds vc ⟨r, sl, c⟩ with
      | some ⟨.exit _, _⟩ => none
      | some ⟨e, S⟩ => (match vresult S.vs rs with | some v => some ⟨v, keepB (fun t => (lookB sl t).isSome) S.s, S.c⟩ | none => none)
      | none => none) else none

def GoodF (P : Program) (e : XFun) : Prop := ∃ fn code, P.funcs[e.f]? = some fn ∧ fn.body = some code ∧ resCode P fn.ntmps code = e.vc ∧ resResults P fn.results.toList = some e.rs ∧ fn.ntmps = e.n ∧ (fn.name == "runtime.NumGoroutine") = false


def Fz (P : Program) (dr : Bool) (c0 : Nat) (S S0 : XS) : Prop := (∀ ops S', VSteps P dr c0 ops S0.vs S' → VSteps P dr c0 ops S.vs S') ∧ ∀ t v, nth S.r t = .lit v → nth S0.r t = .lit v
theorem Fz.refl {P : Program} {dr : Bool} {c0 : Nat} {S : XS} : Fz P dr c0 S S := ⟨fun _ _ h => h, fun _ _ h => h⟩
theorem frzL_fz {β : Type} {P : Program} {c0 : Nat} {l : List Nat} {S : XS} {k : XS → Option β} {b : β} (h : frzL c0 l S k = some b) : ∃ S1 : XS, k S1 = some b ∧ Fz P false c0 S S1 := by
  induction l generalizing S with
  | nil => exact ⟨S, h, Fz.refl⟩
  | cons i r ih =>
    obtain ⟨S1, h1, h2⟩ := frz1_some h
    obtain ⟨S2, h3, h4, h6⟩ := ih h1
    rcases h2 with rfl | ⟨t, off, n, sz, cap, cells, lv, g1, g2, g3, g4, g5⟩
    · exact ⟨S2, h3, h4, h6⟩
    · refine ⟨S2, h3, fun ops S' hs => .frz rfl g1 g2 g3 g4 (by rw [← g5]; exact h4 ops S' hs), fun u v hv => h6 u v ?_⟩
      have e : nth S1.r u = upd (nth S.r) i (.sl (Tok.from off t) sz (((cells.drop off).take (n * sz)).map V.solid)) u := congrFun (congrArg VS.ρ g5) u
      rw [e]
      simp only [upd]
      split
      · rename_i e; subst e
        have g1' : nth S.r u = _ := g1
        rw [hv] at g1'; cases g1'
      · exact hv
theorem fz_if {β : Type} {P : Program} {dr : Bool} {c0 : Nat} {p : Prop} [Decidable p] (hp : dr = true → p) {l : List Nat} {S : XS} {k : XS → Option β} {b : β} (h : (if p then fun k => k S else frzL c0 l S) k = some b) : ∃ S1 : XS, k S1 = some b ∧ Fz P dr c0 S S1 := by
  split at h
  · exact ⟨S, h, Fz.refl⟩
  · rename_i g
    cases dr with
    | true => exact absurd (hp rfl) g
    | false => exact frzL_fz h

theorem joinB (c : Nat) (s sl s' : BL) (h : ∀ t, lookB sl t = none → lookB s' t = none) : lookB (keepB (fun t => !((lookB sl t).isSome || decide (c ≤ t))) s ++ s') = joinσ c (lookB s) (lookB sl) (lookB s') := by
  funext t
  rw [lookB_append, lookB_keep]
  unfold joinσ
  by_cases e1 : (lookB sl t).isSome = true
  · simp [e1]
  · have e1' : lookB sl t = none := by simpa using e1
    by_cases e2 : c ≤ t
    · simp [e1, e2]
    · simp only [e1', Option.isSome_none, Bool.false_or, e2, decide_false, Bool.not_false, if_true, Bool.false_eq_true, or_self, if_false]
      rw [h t e1']
      cases lookB s t <;> rfl

theorem xcallop_sound {β : Type} {P : Program} {call : XCall} (hc : CallOk P call) {dr : Bool} {lend : FuncId → Bool} {c0 : Nat} {f : FuncId} {xs : List X} {d : Option Nat} {S : XS} {k : XS → Option β} {b : β} (h : xcallop call dr lend c0 f xs d S k = some b) :
    ∃ (S0 S1 : XS) (v : V) (σ' : Nat → Option Blk) (c' : Nat) (kt : KT), Fz P dr c0 S S0 ∧ VEff P dr c0 (X.ev S0.vs.ρ) S0.vs.σ S0.vs.c (.call f xs) v σ' c' kt ∧ S1.vs = ⟨updo (kill kt S0.vs.ρ) d v, σ', c'⟩ ∧ k S1 = some b := by
  unfold xcallop at h
  obtain ⟨S0, h, hz⟩ := fz_if (P := P) (dr := dr) (fun e => .inl e) h
  dsimp only at h
  split at h
  · split at h
    · rename_i v s' c' hcl
      rw [fN_eq] at h
      obtain ⟨r', h1, h2⟩ := xput_some h
      obtain ⟨g1, g2⟩ := hc _ _ _ _ _ hcl
      have e : lookB s' = noBlk := funext fun t => g2 t rfl
      rw [lookB_nil] at g1
      dsimp only at g1
      rw [e] at g1
      exact ⟨S0, _, v, _, c', none, hz, .callp g1, by simp only [XS.vs, h2]; rfl, h1⟩
    · cases h
  · rename_i sl hsl
    split at h
    · rename_i v s' c' hcl
      rw [fN_eq, fL_eq] at h
      obtain ⟨r', h1, h2⟩ := xput_some h
      obtain ⟨g1, g2⟩ := hc _ _ _ _ _ hcl
      have hdr : dr = false := by
        cases dr with
        | false => rfl
        | true => exact absurd (by simp) hsl
      subst hdr
      simp only [Bool.false_eq_true, if_false] at *
      refine ⟨S0, _, v, _, c', none, hz, .call rfl (fun t k hk => lentB_ok _ _ t k hk) g1, ?_, h1⟩
      simp only [XS.vs, h2]
      rw [joinB _ _ _ _ g2]
      rfl
    · cases h

theorem xeffop {β : Type} {P : Program} {dr : Bool} {c0 : Nat} {op : VOp} {d : Option Nat} {S : XS} {k : XS → Option β} {b : β}
    (h : (match xeff c0 (X.ev (nth S.r)) S.s S.c op with
    | some ⟨v, s, c, none⟩ => xput d v S.r fun r => k ⟨r, s, c⟩
    | some ⟨v, s, c, some (.inl t)⟩ => fL (killR t S.r) fun r => xput d v r fun r => k ⟨r, s, c⟩
    | _ => none) = some b) :
    ∃ (S1 : XS) (v : V) (σ' : Nat → Option Blk) (c' : Nat) (kt : KT), VEff P dr c0 (X.ev S.vs.ρ) S.vs.σ S.vs.c op v σ' c' kt ∧ S1.vs = ⟨updo (kill kt S.vs.ρ) d v, σ', c'⟩ ∧ k S1 = some b := by
  split at h
  · rename_i v s c hx
    obtain ⟨r', h1, h2⟩ := xput_some h
    exact ⟨_, v, _, c, none, xeff_sound hx, by simp only [XS.vs, h2]; rfl, h1⟩
  · rename_i v s c t hx
    rw [fL_eq] at h
    obtain ⟨r', h1, h2⟩ := xput_some h
    exact ⟨_, v, _, c, some (.inl t), xeff_sound hx, by simp only [XS.vs, h2, nth_kill], h1⟩
  · cases h

theorem xstep_sound {β : Type} {P : Program} {call : XCall} (hc : CallOk P call) {dr : Bool} {lend : FuncId → Bool} {c0 : Nat} {op : VOp} {d : Option Nat} {S : XS} {k : XS → Option β} {b : β}
    (hfn : ∀ x xs, op = .callv x xs → ∀ f r, call f (xs.map (X.ev (nth S.r))) [] S.c = some r → True)
    (hnm : ∀ f xs sl c r, call f xs sl c = some r → ∃ fn b, P.funcs[f]? = some fn ∧ (fn.name == "runtime.NumGoroutine") = false ∧ fn.body = some b) (h : xstep call dr lend c0 op d S k = some b) :
    ∃ (S0 S1 : XS) (v : V) (σ' : Nat → Option Blk) (c' : Nat) (kt : KT), Fz P dr c0 S S0 ∧ VEff P dr c0 (X.ev S0.vs.ρ) S0.vs.σ S0.vs.c op v σ' c' kt ∧ S1.vs = ⟨updo (kill kt S0.vs.ρ) d v, σ', c'⟩ ∧ k S1 = some b := by
  unfold xstep at h
  split at h
  · exact xcallop_sound hc h
  · rename_i x xs
    obtain ⟨S0, h, hz⟩ := fz_if (P := P) (dr := dr) (fun e => e) h
    split at h
    · rename_i f hx
      split at h
      · rename_i v s' c' hcl
        rw [fN_eq] at h
        obtain ⟨r', h1, h2⟩ := xput_some h
        obtain ⟨g1, g2⟩ := hc _ _ _ _ _ hcl
        have e : lookB s' = noBlk := funext fun t => g2 t rfl
        rw [lookB_nil] at g1
        dsimp only at g1
        rw [e] at g1
        exact ⟨S0, _, v, _, c', none, hz, .callv (asFn_some hx) (hnm _ _ _ _ _ hcl) g1, by simp only [XS.vs, h2]; rfl, h1⟩
      · cases h
    · cases h
  · obtain ⟨S0, h, hz⟩ : ∃ S1 : XS, (match xeff c0 (X.ev (nth S1.r)) S1.s S1.c op with
        | some ⟨v, s, c, none⟩ => xput d v S1.r fun r => k ⟨r, s, c⟩
        | some ⟨v, s, c, some (.inl t)⟩ => fL (killR t S1.r) fun r => xput d v r fun r => k ⟨r, s, c⟩
        | _ => none) = some b ∧ Fz P dr c0 S S1 := by
      cases dr with
      | true => exact ⟨S, by simpa using h, Fz.refl⟩
      | false =>
        simp only [Bool.false_eq_true, if_false] at h
        split at h
        all_goals first | exact frzL_fz h | exact ⟨S, h, Fz.refl⟩
    obtain ⟨S1, v, σ', c', kt, g1, g2, g3⟩ := xeffop (P := P) (dr := dr) h
    exact ⟨S0, S1, v, σ', c', kt, hz, g1, g2, g3⟩

theorem xops_sound {P : Program} {call : XCall} (hc : CallOk P call) (hnm : ∀ f xs sl c r, call f xs sl c = some r → ∃ fn b, P.funcs[f]? = some fn ∧ (fn.name == "runtime.NumGoroutine") = false ∧ fn.body = some b) {dr : Bool} {lend : FuncId → Bool} {c0 : Nat} {l : List VO} {S S' : XS} (h : xops call dr lend c0 l S = some S') :
    VSteps P dr c0 l S.vs S'.vs := by
  induction l generalizing S with
  | nil => cases h; exact .nil _
  | cons o r ih =>
    obtain ⟨d, op, g⟩ := o
    have run : ∀ g : Option (Nat × Bool), (∀ t b, g = some (t, b) → nth S.r t = .lit (.bool b)) → xstep call dr lend c0 op d S (fun S => xops call dr lend c0 r S) = some S' → VSteps P dr c0 (⟨d, op, g⟩ :: r) S.vs S'.vs := by
      intro g hg h
      obtain ⟨S0, S1, v, σ', c', kt, hz, h1, h2, h3⟩ := xstep_sound hc (fun _ _ _ _ _ _ => trivial) hnm h
      refine hz.1 _ _ (.cons (.run (fun t b e => hz.2 _ _ (hg t b e)) h1) ?_)
      rw [← h2]
      exact ih h3
    cases g with
    | none => exact run none (fun t b e => by cases e) h
    | some tb =>
      obtain ⟨t, b⟩ := tb
      have skip : skips (nth S.r t) b → (xput d (.tup []) S.r fun rr => xops call dr lend c0 r ⟨rr, S.s, S.c⟩) = some S' → VSteps P dr c0 (⟨d, op, some (t, b)⟩ :: r) S.vs S'.vs := by
        intro hs h
        obtain ⟨r', h1, h2⟩ := xput_some h
        refine .cons (.skip rfl hs) ?_
        have := ih h1
        simp only [XS.vs, h2] at this
        exact this
      simp only [xops] at h
      split at h
      · rename_i b' hb
        split at h
        · rename_i e
          subst e
          exact run _ (fun t' b'' e => by cases e; exact hb) h
        · rename_i e
          exact skip (.inl ⟨b', hb, e⟩) h
      · rename_i hb
        exact skip (.inr hb) h
      · cases h

theorem xrun_sound {P : Program} {call : XCall} (hc : CallOk P call) (hnm : ∀ f xs sl c r, call f xs sl c = some r → ∃ fn b, P.funcs[f]? = some fn ∧ (fn.name == "runtime.NumGoroutine") = false ∧ fn.body = some b) {lend : FuncId → Bool} {rsl : List Nat} {c0 : Nat} {n : Nat} {vc : VC} {S : XS} {o : XOut} (h : xrun call lend rsl c0 n vc S = some o) :
    VExec P c0 vc S.vs o.e o.S.vs := by
  induction n generalizing vc S o with
  | zero => cases h
  | succ n ih =>
    unfold xrun at h
    split at h
    · cases h; exact .skip _
    · rename_i dr ops
      have fin : ∀ S0 : XS, (match xops call dr lend c0 ops S0 with | some S => some (⟨.normal, S⟩ : XOut) | none => none) = some o → VExec P c0 (.region dr ops) S0.vs o.e o.S.vs := by
        intro S0 h
        split at h
        · rename_i S1 hS
          cases h
          exact .region (xops_sound hc hnm hS)
        · cases h
      split at h
      · obtain ⟨S0, h1, h2⟩ := frzL_exec (P := P) h
        exact h2 _ _ _ (fin S0 h1)
      · exact fin S h
    · rename_i a b
      split at h
      · rename_i S1 h1
        exact .seq (ih h1) (ih h)
      · rename_i hne
        refine .seqOut (ih h) ?_
        intro e
        obtain ⟨e0, S1⟩ := o
        simp only at e
        subst e
        exact hne S1 h
    · split at h
      · rename_i hx
        exact .cond (t := true) hx (ih h)
      · rename_i hx
        exact .cond (t := false) hx (ih h)
      · cases h
    · split at h
      · rename_i j S1 h1
        split at h
        · rename_i e; subst e; cases h; exact .blockExit (ih h1)
        · rename_i e; cases h; exact .block (ih h1) (fun e' => by cases e'; exact e rfl)
      · rename_i hne
        refine .block (ih h) ?_
        intro e
        obtain ⟨e0, S1⟩ := o
        simp only at e
        subst e
        exact hne _ S1 h
    · split at h
      · rename_i S1 h1
        exact .loop (ih h1) (ih h)
      · rename_i hne
        refine .loopOut (ih h) ?_
        intro e
        obtain ⟨e0, S1⟩ := o
        simp only at e
        subst e
        exact hne S1 h
    · cases h; exact .exit _ _
    · obtain ⟨S0, h1, h2⟩ := frzL_exec (P := P) h
      cases h1
      exact h2 _ _ _ (.ret _)
    · cases h

theorem findF_some {T : List XFun} {f : FuncId} {e : XFun} (h : findF T f = some e) : e ∈ T ∧ e.f = f := by
  induction T with
  | nil => cases h
  | cons a r ih =>
    simp only [findF] at h
    split at h
    · rename_i g
      cases h
      exact ⟨List.mem_cons_self, Nat.eq_of_beq_eq_true g⟩
    · obtain ⟨h1, h2⟩ := ih h
      exact ⟨List.mem_cons_of_mem _ h1, h2⟩

theorem xcall_sound {P : Program} (hm : P.follows .mixedOrders = true) {orc : XOrc} (ho : OrcOk P orc) {T : List XFun} (hT : ∀ e ∈ T, GoodF P e) {lend : FuncId → Bool} {rounds : Nat} (n : Nat) : CallOk P (xcall orc T lend rounds n) ∧ ∀ f xs sl c r, xcall orc T lend rounds n f xs sl c = some r → ∃ fn b, P.funcs[f]? = some fn ∧ (fn.name == "runtime.NumGoroutine") = false ∧ fn.body = some b := by
  induction n with
  | zero => exact ⟨fun f xs sl c r h => (by cases h), fun f xs sl c r h => (by cases h)⟩
  | succ n ih =>
    constructor
    · intro f xs sl c r h
      simp only [xcall] at h
      split at h
      · cases h
      · rename_i f' vc rs m hf
        obtain ⟨h1, h2⟩ := findF_some hf
        obtain ⟨fn, code, g1, g2, g3, g4, g5, _⟩ := hT _ h1
        dsimp only at h2 g1 g3 g4 g5
        subst h2 g5
        split at h
        · rename_i v hv
          cases h
          cases sl with
          | nil =>
            refine ⟨?_, fun t _ => rfl⟩
            rw [lookB_nil]
            exact ho _ _ _ hv c
          | cons _ _ => cases hv
        split at h
        · rename_i hlen
          split at h
          · cases h
          · rename_i e S hne hr
            rw [fL_eq] at hr
            have hex := xrun_sound ih.1 ih.2 hr
            dsimp only at hex
            have hst : (⟨xs ++ List.replicate (fn.ntmps - xs.length) .any, sl, c⟩ : XS).vs = ⟨start xs, lookB sl, c⟩ := by simp only [XS.vs, nth_append_any, start_nth]
            rw [hst] at hex
            split at h
            · rename_i v hv
              cases h
              have he : e = .ret ∨ e = .normal := by
                cases e with
                | normal => exact .inr rfl
                | ret => exact .inl rfl
                | exit id => exact (hne id rfl).elim
              refine ⟨vcalls_of_exec hm g1 g2 g3 g4 hlen hex he hv (fun t k hk => ?_) (fun t ht => ?_), fun t ht => ?_⟩
              · rw [lookB_keep] at hk
                split at hk
                · exact hk
                · cases hk
              · rw [lookB_keep, if_pos]
                · rfl
                · cases hq : lookB sl t with
                  | none => exact absurd hq ht
                  | some k => rfl
              · dsimp only
                rw [lookB_keep, ht]
                rfl
            · cases h
          · cases h
        · cases h
    · intro f xs sl c r h
      simp only [xcall] at h
      split at h
      · cases h
      · rename_i f' vc rs m hf
        obtain ⟨h1, h2⟩ := findF_some hf
        obtain ⟨fn, code, g1, g2, g3, g4, g5, g6⟩ := hT _ h1
        dsimp only at h2 g1
        subst h2
        exact ⟨fn, code, g1, g6, g2⟩
end Go.VM
namespace Go.VM
theorem xcall_p {P : Program} (hm : P.follows .mixedOrders = true) {orc : XOrc} (ho : OrcOk P orc) {T : List XFun} (hT : ∀ e ∈ T, GoodF P e) {lend : FuncId → Bool} {rounds n c : Nat} {f : FuncId} {xs : List V} {v : V}
    (h : ((xcall orc T lend rounds n f xs [] c).map fun r => r.v) = some v) : ∃ c', VCallP P f c xs v c' := by
  cases hr : xcall orc T lend rounds n f xs [] c with
  | none => rw [hr] at h; cases h
  | some r =>
    rw [hr] at h
    cases h
    obtain ⟨h1, h2⟩ := (xcall_sound hm ho hT (lend := lend) (rounds := rounds) n).1 f xs [] c r hr
    have e : lookB r.s = noBlk := funext fun t => h2 t rfl
    rw [lookB_nil, e] at h1
    exact ⟨_, h1⟩
end Go.VM
namespace Go.VM

inductive Loose : V → V → Prop
  | lit (v : Value) : Loose (.lit v) (.lit v)
  | sl (t : Tok) (sz : Nat) (l : List Value) : Loose (.sl t sz (l.map .lit)) (.sl .unk sz (l.map .lit))
  | tup (l l' : List V) (hn : l.length = l'.length) (h : ∀ (j : Nat) (x y : V), l[j]? = some x → l'[j]? = some y → Loose x y) : Loose (.tup l) (.tup l')

theorem Loose.nats (t : Tok) (l : List Nat) : Loose (nats t l) (nats .unk l) := by
  have := Loose.sl t 1 (l.map fun (n : Nat) => Value.int .u64 (n : Int))
  rw [List.map_map] at this
  exact this
theorem Loose.pair {x y x' y' : V} (h1 : Loose x x') (h2 : Loose y y') : Loose (.tup [x, y]) (.tup [x', y']) :=
  .tup _ _ rfl fun j a b ha hb => match j, ha, hb with
    | 0, ha, hb => by simp at ha hb; subst ha hb; exact h1
    | 1, ha, hb => by simp at ha hb; subst ha hb; exact h2
    | j + 2, ha, hb => by simp at ha
theorem rep_lit {w : World} {M : Nat → Prop} {μ : Nat → Nat} {c : Nat} {v u : Value} (h : Rep w M μ c (.lit v) u) : u = v := by cases h; rfl
theorem Loose.one {x y : V} (h : Loose x y) : x.one = true := by cases h <;> rfl

theorem VCallP.at {P : Program} {f : FuncId} {c' : Nat} {v : Value} (h : VCallP P f 0 [] (.lit v) c') (c : Nat) : VCallP P f c [] (.lit v) c := by
  intro w Φ μ vs hm hn ha
  have hm0 : Mem ⟨P, 0, w, Φ, 0, μ, noBlk, noGiv⟩ noBlk 0 w μ := ⟨⟨fun t ht => absurd rfl ht, fun t ht => absurd rfl ht, fun t t' ht => absurd rfl ht, fun t ht => absurd ht (Nat.not_lt_zero _), fun b hb => hb.elim, fun t ht => absurd rfl ht, fun b hb => hb.elim, hm.good.glob⟩, ⟨rfl, rfl, rfl, Nat.le_refl _, Grows.refl _, fun _ _ _ _ => rfl⟩, Nat.le_refl _, fun _ _ => rfl, fun t h1 h2 => absurd h2 (Nat.not_lt_zero _), fun t t' h1 h2 => absurd h2 (Nat.not_lt_zero _), fun t k hk => (by cases hk), fun t ht => absurd rfl ht, fun t k hk => (by cases hk)⟩
  refine Calls.mono (h w Φ μ vs hm0 hn (fun j x v hx => by simp at hx)) ?_
  rintro e W' ⟨u, μ', rfl, hm', hr⟩
  refine ⟨u, μ, rfl, ⟨hm.good, ⟨hm'.moved.os, hm'.moved.tape, hm'.moved.output, hm'.moved.size, hm'.moved.grows, fun b hb hg _ => hm'.moved.block b hb hg (fun t ht => absurd rfl ht)⟩, Nat.le_refl _, fun _ _ => rfl, fun t h1 h2 => absurd h2 (Nat.not_lt.2 h1), fun t t' h1 h2 => absurd h2 (Nat.not_lt.2 h1), fun t k hk => (by cases hk), fun t ht => absurd rfl ht, fun t k hk => (by cases hk)⟩, RepE.of_one ?_⟩
  have := hr.one rfl
  rw [rep_lit this]
  exact .lit v

def dec1 (v : V) : Option Nat := match v with | .lit (.int .u64 (.ofNat n)) => if n < 18446744073709551616 then some n else none | _ => none
def decL (l : List V) : Option (List Nat) := match l with
  | [] => some []
  | x :: r => match dec1 x, decL r with | some n, some l => some (n :: l) | _, _ => none
def shortL (l : List Nat) : Bool := Nat.ble l.length 1000000
def decN (v : V) : Option (Tok × List Nat) := match v with
  | .sl t 1 l => match decL l with | some r => if shortL r = true then some (t, r) else none | none => none
  | _ => none
def o1 (g : Nat → V) (xs : List V) : Option V := match xs with | [x] => (match decN x with | some p => some (g (val 18446744073709551616 p.2)) | none => none) | _ => none
def o2 (g : Nat → Nat → V) (xs : List V) : Option V := match xs with | [x, y] => (match decN x, decN y with | some p, some q => some (g (val 18446744073709551616 p.2) (val 18446744073709551616 q.2)) | _, _ => none) | _ => none
section
variable {P : Program} {f : FuncId} {xs : List V} {v : V}
end
end Go.VM
namespace Go.Proofs.YtcafgpconlkecaaGreatDoor
open Go.VM

theorem gX {f : FuncId} {fn : Func} {C : VC} {R : List VRes} {n : Nat} (g : Gok f fn C R n) (h : (fn.name == "runtime.NumGoroutine") = false := by kernel_rfl) : GoodF Tryz.prog ⟨f, C, R, n⟩ := ⟨_, _, g.e, g.b, g.k, g.q, g.n, h⟩

theorem X.surdlaw10_awake : GoodF Tryz.prog ⟨F.surdlaw10_awake, C.surdlaw10_awake, R.surdlaw10_awake, 46⟩ := gX G.surdlaw10_awake
theorem X.surdlaw10_num : GoodF Tryz.prog ⟨F.surdlaw10_num, C.surdlaw10_num, R.surdlaw10_num, 4⟩ := gX G.surdlaw10_num
theorem X.surdref01_Num_Limbs : GoodF Tryz.prog ⟨F.surdref01_Num_Limbs, C.surdref01_Num_Limbs, R.surdref01_Num_Limbs, 34⟩ := gX G.surdref01_Num_Limbs
theorem X.span_Add : GoodF Tryz.prog ⟨F.span_Add, C.span_Add, R.span_Add, 24⟩ := gX G.span_Add
theorem X.surdref08_Int : GoodF Tryz.prog ⟨F.surdref08_Int, C.surdref08_Int, R.surdref08_Int, 9⟩ := gX G.surdref08_Int
theorem X.surdref06_Z_Sign : GoodF Tryz.prog ⟨F.surdref06_Z_Sign, C.surdref06_Z_Sign, R.surdref06_Z_Sign, 8⟩ := gX G.surdref06_Z_Sign
theorem X.surdref08_D_Is : GoodF Tryz.prog ⟨F.surdref08_D_Is, C.surdref08_D_Is, R.surdref08_D_Is, 20⟩ := gX G.surdref08_D_Is
theorem X.surdlaw10_small : GoodF Tryz.prog ⟨F.surdlaw10_small, C.surdlaw10_small, R.surdlaw10_small, 8⟩ := gX G.surdlaw10_small
theorem X.surdref08_Of : GoodF Tryz.prog ⟨F.surdref08_Of, C.surdref08_Of, R.surdref08_Of, 24⟩ := gX G.surdref08_Of
theorem X.span_checks : GoodF Tryz.prog ⟨F.span_checks, C.span_checks, R.span_checks, 26⟩ := gX G.span_checks
theorem X.span_sums : GoodF Tryz.prog ⟨F.span_sums, C.span_sums, R.span_sums, 42⟩ := gX G.span_sums
theorem X.span_worst : GoodF Tryz.prog ⟨F.span_worst, C.span_worst, R.span_worst, 15⟩ := gX G.span_worst
theorem X.surdref06_Int : GoodF Tryz.prog ⟨F.surdref06_Int, C.surdref06_Int, R.surdref06_Int, 16⟩ := gX G.surdref06_Int
theorem X.span_ends : GoodF Tryz.prog ⟨F.span_ends, C.span_ends, R.span_ends, 21⟩ := gX G.span_ends
theorem X.surdref01_Num_Zero : GoodF Tryz.prog ⟨F.surdref01_Num_Zero, C.surdref01_Num_Zero, R.surdref01_Num_Zero, 6⟩ := gX G.surdref01_Num_Zero
theorem X.span_check : GoodF Tryz.prog ⟨F.span_check, C.span_check, R.span_check, 20⟩ := gX G.span_check
theorem X.span_outward : GoodF Tryz.prog ⟨F.span_outward, C.span_outward, R.span_outward, 31⟩ := gX G.span_outward
theorem X.dyadic_Compare : GoodF Tryz.prog ⟨F.dyadic_Compare, C.dyadic_Compare, R.dyadic_Compare, 22⟩ := gX G.dyadic_Compare
theorem X.surdref06_Z_Is : GoodF Tryz.prog ⟨F.surdref06_Z_Is, C.surdref06_Z_Is, R.surdref06_Z_Is, 17⟩ := gX G.surdref06_Z_Is
theorem X.surdref01_Int : GoodF Tryz.prog ⟨F.surdref01_Int, C.surdref01_Int, R.surdref01_Int, 7⟩ := gX G.surdref01_Int
theorem X.surdref01_Num_Tail : GoodF Tryz.prog ⟨F.surdref01_Num_Tail, C.surdref01_Num_Tail, R.surdref01_Num_Tail, 14⟩ := gX G.surdref01_Num_Tail
theorem X.surdref01_Shr : GoodF Tryz.prog ⟨F.surdref01_Shr, C.surdref01_Shr, R.surdref01_Shr, 53⟩ := gX G.surdref01_Shr
theorem X.surdref06_make1 : GoodF Tryz.prog ⟨F.surdref06_make1, C.surdref06_make1, R.surdref06_make1, 13⟩ := gX G.surdref06_make1
theorem X.dyadic_Add : GoodF Tryz.prog ⟨F.dyadic_Add, C.dyadic_Add, R.dyadic_Add, 25⟩ := gX G.dyadic_Add
theorem X.dyadic_two : GoodF Tryz.prog ⟨F.dyadic_two, C.dyadic_two, R.dyadic_two, 28⟩ := gX G.dyadic_two
theorem X.dyadic_told : GoodF Tryz.prog ⟨F.dyadic_told, C.dyadic_told, R.dyadic_told, 34⟩ := gX G.dyadic_told
theorem X.surdref01_Of : GoodF Tryz.prog ⟨F.surdref01_Of, C.surdref01_Of, R.surdref01_Of, 26⟩ := gX G.surdref01_Of
theorem X.whole_Sign : GoodF Tryz.prog ⟨F.whole_Sign, C.whole_Sign, R.whole_Sign, 11⟩ := gX G.whole_Sign
theorem X.nat_Length : GoodF Tryz.prog ⟨F.nat_Length, C.nat_Length, R.nat_Length, 20⟩ := gX G.nat_Length
theorem X.nat_Tail : GoodF Tryz.prog ⟨F.nat_Tail, C.nat_Tail, R.nat_Tail, 20⟩ := gX G.nat_Tail
theorem X.nat_Bit : GoodF Tryz.prog ⟨F.nat_Bit, C.nat_Bit, R.nat_Bit, 25⟩ := gX G.nat_Bit
theorem X.dyadic_read : GoodF Tryz.prog ⟨F.dyadic_read, C.dyadic_read, R.dyadic_read, 14⟩ := gX G.dyadic_read
theorem X.dyadic_Round : GoodF Tryz.prog ⟨F.dyadic_Round, C.dyadic_Round, R.dyadic_Round, 36⟩ := gX G.dyadic_Round
theorem X.dyadic_compare : GoodF Tryz.prog ⟨F.dyadic_compare, C.dyadic_compare, R.dyadic_compare, 71⟩ := gX G.dyadic_compare
theorem X.surdref01_Num_Is : GoodF Tryz.prog ⟨F.surdref01_Num_Is, C.surdref01_Num_Is, R.surdref01_Num_Is, 29⟩ := gX G.surdref01_Num_Is
theorem X.surdref01_norm : GoodF Tryz.prog ⟨F.surdref01_norm, C.surdref01_norm, R.surdref01_norm, 22⟩ := gX G.surdref01_norm
theorem X.surdref01_Num_Bit : GoodF Tryz.prog ⟨F.surdref01_Num_Bit, C.surdref01_Num_Bit, R.surdref01_Num_Bit, 24⟩ := gX G.surdref01_Num_Bit
theorem X.surdref01_Num_at : GoodF Tryz.prog ⟨F.surdref01_Num_at, C.surdref01_Num_at, R.surdref01_Num_at, 13⟩ := gX G.surdref01_Num_at
theorem X.dyadic_sum : GoodF Tryz.prog ⟨F.dyadic_sum, C.dyadic_sum, R.dyadic_sum, 97⟩ := gX G.dyadic_sum
theorem X.whole_result : GoodF Tryz.prog ⟨F.whole_result, C.whole_result, R.whole_result, 18⟩ := gX G.whole_result
theorem X.dyadic_odd : GoodF Tryz.prog ⟨F.dyadic_odd, C.dyadic_odd, R.dyadic_odd, 30⟩ := gX G.dyadic_odd
theorem X.dyadic_part_sign : GoodF Tryz.prog ⟨F.dyadic_part_sign, C.dyadic_part_sign, R.dyadic_part_sign, 6⟩ := gX G.dyadic_part_sign
theorem X.dyadic_part_length : GoodF Tryz.prog ⟨F.dyadic_part_length, C.dyadic_part_length, R.dyadic_part_length, 7⟩ := gX G.dyadic_part_length
theorem X.dyadic_within : GoodF Tryz.prog ⟨F.dyadic_within, C.dyadic_within, R.dyadic_within, 9⟩ := gX G.dyadic_within
theorem X.nat_From : GoodF Tryz.prog ⟨F.nat_From, C.nat_From, R.nat_From, 7⟩ := gX G.nat_From
theorem X.nat_Norm : GoodF Tryz.prog ⟨F.nat_Norm, C.nat_Norm, R.nat_Norm, 6⟩ := gX G.nat_Norm
theorem X.nat_trim : GoodF Tryz.prog ⟨F.nat_trim, C.nat_trim, R.nat_trim, 21⟩ := gX G.nat_trim
theorem X.bits_Len64 : GoodF Tryz.prog ⟨F.bits_Len64, C.bits_Len64, R.bits_Len64, 25⟩ := gX G.bits_Len64
theorem X.nat_Add : GoodF Tryz.prog ⟨F.nat_Add, C.nat_Add, R.nat_Add, 61⟩ := gX G.nat_Add
theorem X.bits_TrailingZeros64 : GoodF Tryz.prog ⟨F.bits_TrailingZeros64, C.bits_TrailingZeros64, R.bits_TrailingZeros64, 14⟩ := gX G.bits_TrailingZeros64
theorem X.dyadic_direction : GoodF Tryz.prog ⟨F.dyadic_direction, C.dyadic_direction, R.dyadic_direction, 13⟩ := gX G.dyadic_direction
theorem X.dyadic_rounded : GoodF Tryz.prog ⟨F.dyadic_rounded, C.dyadic_rounded, R.dyadic_rounded, 34⟩ := gX G.dyadic_rounded
theorem X.dyadic_number_top : GoodF Tryz.prog ⟨F.dyadic_number_top, C.dyadic_number_top, R.dyadic_number_top, 10⟩ := gX G.dyadic_number_top
theorem X.dyadic_left : GoodF Tryz.prog ⟨F.dyadic_left, C.dyadic_left, R.dyadic_left, 65⟩ := gX G.dyadic_left
theorem X.nat_Compare : GoodF Tryz.prog ⟨F.nat_Compare, C.nat_Compare, R.nat_Compare, 45⟩ := gX G.nat_Compare
theorem X.whole_Make : GoodF Tryz.prog ⟨F.whole_Make, C.whole_Make, R.whole_Make, 12⟩ := gX G.whole_Make
theorem X.dyadic_long : GoodF Tryz.prog ⟨F.dyadic_long, C.dyadic_long, R.dyadic_long, 64⟩ := gX G.dyadic_long
theorem X.whole_Add : GoodF Tryz.prog ⟨F.whole_Add, C.whole_Add, R.whole_Add, 57⟩ := gX G.whole_Add
theorem X.whole_fits : GoodF Tryz.prog ⟨F.whole_fits, C.whole_fits, R.whole_fits, 11⟩ := gX G.whole_fits
theorem X.dyadic_shifted : GoodF Tryz.prog ⟨F.dyadic_shifted, C.dyadic_shifted, R.dyadic_shifted, 76⟩ := gX G.dyadic_shifted
theorem X.nat_told : GoodF Tryz.prog ⟨F.nat_told, C.nat_told, R.nat_told, 10⟩ := gX G.nat_told
theorem X.dyadic_steps : GoodF Tryz.prog ⟨F.dyadic_steps, C.dyadic_steps, R.dyadic_steps, 98⟩ := gX G.dyadic_steps
theorem X.nat_Left : GoodF Tryz.prog ⟨F.nat_Left, C.nat_Left, R.nat_Left, 73⟩ := gX G.nat_Left
theorem X.dyadic_minus : GoodF Tryz.prog ⟨F.dyadic_minus, C.dyadic_minus, R.dyadic_minus, 49⟩ := gX G.dyadic_minus
theorem X.dyadic_plus : GoodF Tryz.prog ⟨F.dyadic_plus, C.dyadic_plus, R.dyadic_plus, 51⟩ := gX G.dyadic_plus
theorem X.whole_norm : GoodF Tryz.prog ⟨F.whole_norm, C.whole_norm, R.whole_norm, 16⟩ := gX G.whole_norm
theorem X.nat_Sub : GoodF Tryz.prog ⟨F.nat_Sub, C.nat_Sub, R.nat_Sub, 52⟩ := gX G.nat_Sub
theorem X.nat_Right : GoodF Tryz.prog ⟨F.nat_Right, C.nat_Right, R.nat_Right, 77⟩ := gX G.nat_Right
theorem X.dyadic_limb : GoodF Tryz.prog ⟨F.dyadic_limb, C.dyadic_limb, R.dyadic_limb, 13⟩ := gX G.dyadic_limb
def XT : List XFun := [⟨F.surdlaw10_awake, C.surdlaw10_awake, R.surdlaw10_awake, 46⟩,
  ⟨F.surdlaw10_num, C.surdlaw10_num, R.surdlaw10_num, 4⟩,
  ⟨F.surdref01_Num_Limbs, C.surdref01_Num_Limbs, R.surdref01_Num_Limbs, 34⟩,
  ⟨F.span_Add, C.span_Add, R.span_Add, 24⟩,
  ⟨F.surdref08_Int, C.surdref08_Int, R.surdref08_Int, 9⟩,
  ⟨F.surdref06_Z_Sign, C.surdref06_Z_Sign, R.surdref06_Z_Sign, 8⟩,
  ⟨F.surdref08_D_Is, C.surdref08_D_Is, R.surdref08_D_Is, 20⟩,
  ⟨F.surdlaw10_small, C.surdlaw10_small, R.surdlaw10_small, 8⟩,
  ⟨F.surdref08_Of, C.surdref08_Of, R.surdref08_Of, 24⟩,
  ⟨F.span_checks, C.span_checks, R.span_checks, 26⟩,
  ⟨F.span_sums, C.span_sums, R.span_sums, 42⟩,
  ⟨F.span_worst, C.span_worst, R.span_worst, 15⟩,
  ⟨F.surdref06_Int, C.surdref06_Int, R.surdref06_Int, 16⟩,
  ⟨F.span_ends, C.span_ends, R.span_ends, 21⟩,
  ⟨F.surdref01_Num_Zero, C.surdref01_Num_Zero, R.surdref01_Num_Zero, 6⟩,
  ⟨F.span_check, C.span_check, R.span_check, 20⟩,
  ⟨F.span_outward, C.span_outward, R.span_outward, 31⟩,
  ⟨F.dyadic_Compare, C.dyadic_Compare, R.dyadic_Compare, 22⟩,
  ⟨F.surdref06_Z_Is, C.surdref06_Z_Is, R.surdref06_Z_Is, 17⟩,
  ⟨F.surdref01_Int, C.surdref01_Int, R.surdref01_Int, 7⟩,
  ⟨F.surdref01_Num_Tail, C.surdref01_Num_Tail, R.surdref01_Num_Tail, 14⟩,
  ⟨F.surdref01_Shr, C.surdref01_Shr, R.surdref01_Shr, 53⟩,
  ⟨F.surdref06_make1, C.surdref06_make1, R.surdref06_make1, 13⟩,
  ⟨F.dyadic_Add, C.dyadic_Add, R.dyadic_Add, 25⟩,
  ⟨F.dyadic_two, C.dyadic_two, R.dyadic_two, 28⟩,
  ⟨F.dyadic_told, C.dyadic_told, R.dyadic_told, 34⟩,
  ⟨F.surdref01_Of, C.surdref01_Of, R.surdref01_Of, 26⟩,
  ⟨F.whole_Sign, C.whole_Sign, R.whole_Sign, 11⟩,
  ⟨F.nat_Length, C.nat_Length, R.nat_Length, 20⟩,
  ⟨F.nat_Tail, C.nat_Tail, R.nat_Tail, 20⟩,
  ⟨F.nat_Bit, C.nat_Bit, R.nat_Bit, 25⟩,
  ⟨F.dyadic_read, C.dyadic_read, R.dyadic_read, 14⟩,
  ⟨F.dyadic_Round, C.dyadic_Round, R.dyadic_Round, 36⟩,
  ⟨F.dyadic_compare, C.dyadic_compare, R.dyadic_compare, 71⟩,
  ⟨F.surdref01_Num_Is, C.surdref01_Num_Is, R.surdref01_Num_Is, 29⟩,
  ⟨F.surdref01_norm, C.surdref01_norm, R.surdref01_norm, 22⟩,
  ⟨F.surdref01_Num_Bit, C.surdref01_Num_Bit, R.surdref01_Num_Bit, 24⟩,
  ⟨F.surdref01_Num_at, C.surdref01_Num_at, R.surdref01_Num_at, 13⟩,
  ⟨F.dyadic_sum, C.dyadic_sum, R.dyadic_sum, 97⟩,
  ⟨F.whole_result, C.whole_result, R.whole_result, 18⟩,
  ⟨F.dyadic_odd, C.dyadic_odd, R.dyadic_odd, 30⟩,
  ⟨F.dyadic_part_sign, C.dyadic_part_sign, R.dyadic_part_sign, 6⟩,
  ⟨F.dyadic_part_length, C.dyadic_part_length, R.dyadic_part_length, 7⟩,
  ⟨F.dyadic_within, C.dyadic_within, R.dyadic_within, 9⟩,
  ⟨F.nat_From, C.nat_From, R.nat_From, 7⟩,
  ⟨F.nat_Norm, C.nat_Norm, R.nat_Norm, 6⟩,
  ⟨F.nat_trim, C.nat_trim, R.nat_trim, 21⟩,
  ⟨F.bits_Len64, C.bits_Len64, R.bits_Len64, 25⟩,
  ⟨F.nat_Add, C.nat_Add, R.nat_Add, 61⟩,
  ⟨F.bits_TrailingZeros64, C.bits_TrailingZeros64, R.bits_TrailingZeros64, 14⟩,
  ⟨F.dyadic_direction, C.dyadic_direction, R.dyadic_direction, 13⟩,
  ⟨F.dyadic_rounded, C.dyadic_rounded, R.dyadic_rounded, 34⟩,
  ⟨F.dyadic_number_top, C.dyadic_number_top, R.dyadic_number_top, 10⟩,
  ⟨F.dyadic_left, C.dyadic_left, R.dyadic_left, 65⟩,
  ⟨F.nat_Compare, C.nat_Compare, R.nat_Compare, 45⟩,
  ⟨F.whole_Make, C.whole_Make, R.whole_Make, 12⟩,
  ⟨F.dyadic_long, C.dyadic_long, R.dyadic_long, 64⟩,
  ⟨F.whole_Add, C.whole_Add, R.whole_Add, 57⟩,
  ⟨F.whole_fits, C.whole_fits, R.whole_fits, 11⟩,
  ⟨F.dyadic_shifted, C.dyadic_shifted, R.dyadic_shifted, 76⟩,
  ⟨F.nat_told, C.nat_told, R.nat_told, 10⟩,
  ⟨F.dyadic_steps, C.dyadic_steps, R.dyadic_steps, 98⟩,
  ⟨F.nat_Left, C.nat_Left, R.nat_Left, 73⟩,
  ⟨F.dyadic_minus, C.dyadic_minus, R.dyadic_minus, 49⟩,
  ⟨F.dyadic_plus, C.dyadic_plus, R.dyadic_plus, 51⟩,
  ⟨F.whole_norm, C.whole_norm, R.whole_norm, 16⟩,
  ⟨F.nat_Sub, C.nat_Sub, R.nat_Sub, 52⟩,
  ⟨F.nat_Right, C.nat_Right, R.nat_Right, 77⟩,
  ⟨F.dyadic_limb, C.dyadic_limb, R.dyadic_limb, 13⟩]
theorem XT_good : ∀ e ∈ XT, GoodF Tryz.prog e := by
  intro e h
  unfold XT at h
  simp only [List.mem_cons, List.not_mem_nil, or_false] at h
  rcases h with rfl | rfl | rfl | rfl | rfl | rfl | rfl | rfl | rfl | rfl | rfl | rfl | rfl | rfl | rfl | rfl | rfl | rfl | rfl | rfl | rfl | rfl | rfl | rfl | rfl | rfl | rfl | rfl | rfl | rfl | rfl | rfl | rfl | rfl | rfl | rfl | rfl | rfl | rfl | rfl | rfl | rfl | rfl | rfl | rfl | rfl | rfl | rfl | rfl | rfl | rfl | rfl | rfl | rfl | rfl | rfl | rfl | rfl | rfl | rfl | rfl | rfl | rfl | rfl | rfl | rfl | rfl | rfl | rfl
  · exact X.surdlaw10_awake
  · exact X.surdlaw10_num
  · exact X.surdref01_Num_Limbs
  · exact X.span_Add
  · exact X.surdref08_Int
  · exact X.surdref06_Z_Sign
  · exact X.surdref08_D_Is
  · exact X.surdlaw10_small
  · exact X.surdref08_Of
  · exact X.span_checks
  · exact X.span_sums
  · exact X.span_worst
  · exact X.surdref06_Int
  · exact X.span_ends
  · exact X.surdref01_Num_Zero
  · exact X.span_check
  · exact X.span_outward
  · exact X.dyadic_Compare
  · exact X.surdref06_Z_Is
  · exact X.surdref01_Int
  · exact X.surdref01_Num_Tail
  · exact X.surdref01_Shr
  · exact X.surdref06_make1
  · exact X.dyadic_Add
  · exact X.dyadic_two
  · exact X.dyadic_told
  · exact X.surdref01_Of
  · exact X.whole_Sign
  · exact X.nat_Length
  · exact X.nat_Tail
  · exact X.nat_Bit
  · exact X.dyadic_read
  · exact X.dyadic_Round
  · exact X.dyadic_compare
  · exact X.surdref01_Num_Is
  · exact X.surdref01_norm
  · exact X.surdref01_Num_Bit
  · exact X.surdref01_Num_at
  · exact X.dyadic_sum
  · exact X.whole_result
  · exact X.dyadic_odd
  · exact X.dyadic_part_sign
  · exact X.dyadic_part_length
  · exact X.dyadic_within
  · exact X.nat_From
  · exact X.nat_Norm
  · exact X.nat_trim
  · exact X.bits_Len64
  · exact X.nat_Add
  · exact X.bits_TrailingZeros64
  · exact X.dyadic_direction
  · exact X.dyadic_rounded
  · exact X.dyadic_number_top
  · exact X.dyadic_left
  · exact X.nat_Compare
  · exact X.whole_Make
  · exact X.dyadic_long
  · exact X.whole_Add
  · exact X.whole_fits
  · exact X.dyadic_shifted
  · exact X.nat_told
  · exact X.dyadic_steps
  · exact X.nat_Left
  · exact X.dyadic_minus
  · exact X.dyadic_plus
  · exact X.whole_norm
  · exact X.nat_Sub
  · exact X.nat_Right
  · exact X.dyadic_limb
theorem hm9 : Tryz.prog.follows .mixedOrders = true := by kernel_rfl
def orcNo : XOrc := fun _ _ => none
theorem orcNo_ok : OrcOk Tryz.prog orcNo := fun f xs v h => by cases h
theorem awake_spec (c : Nat) : VSpec Tryz.prog F.surdlaw10_awake c [] (fun r _ => r = bv true) := by
  obtain ⟨c', h⟩ := xcall_p hm9 orcNo_ok XT_good (lend := fun _ => false) (rounds := 100000) (n := 60) (c := 0) (f := F.surdlaw10_awake) (xs := []) (v := bv true) (by kernel_rfl)
  exact ⟨_, c, Nat.le_refl _, h.at c, rfl⟩
end Go.Proofs.YtcafgpconlkecaaGreatDoor
namespace Go.Proofs.YtcafgpconlkecaaGreatDoor
open Go.VM Go.RowKit

theorem RSum.ex {x y : Dy} {v : V} (h : RSum x y v) : ∃ ok k, ∃ lo : Dy, v = .tup [fV k lo, bv ok] ∧ (ok = true → lo = addD x y ∧ bl lo.m ≤ 2000000001) := by
  rcases h with ⟨h, k, rfl⟩ | ⟨h, k, rfl⟩
  · exact ⟨true, k, _, rfl, fun _ => ⟨rfl, h⟩⟩
  · exact ⟨false, k, _, rfl, fun h => by cases h⟩
theorem anE_told {f : Int} {x y : Dy} (h : anE f x y = 0) : f = 0 ∧ tE x = 0 ∧ tE y = 0 ∧ anL f x y = x ∧ anH f x y = y := by
  unfold anE at h
  by_cases g : f = 0
  · rw [if_pos g] at h
    obtain ⟨h1, h2⟩ := ansE_zero.1 h
    subst g
    exact ⟨rfl, h1, h2, if_pos h, if_pos h⟩
  · rw [if_neg g] at h; exact absurd h g
theorem rds_of (t u : Tok) (x y : Dy) (c : Nat) (hx : x.Ok) (hy : y.Ok) (h1 : tE x = 0) (h2 : tE y = 0) : VSpec Tryz.prog F.surdlaw10_reads c [rsV t u (RD.of x) (RD.of y)] (fun r _ => ∃ tk uk, r = fsV tk uk x y) := by
  obtain ⟨k1, e1⟩ := told_ok hx h1
  obtain ⟨k2, e2⟩ := told_ok hy h2
  have h := rds10_spec t u (RD.of x) (RD.of y) c k1 k2
  rw [e1, e2] at h
  exact h
theorem told_r' {d : Dy} (hd : d.Ok) (h : tE d = 0) : RNum d := by
  obtain ⟨k, e⟩ := told_ok hd h
  have := k.num.r
  rw [e] at this
  exact this
theorem mn_in {e1 e2 e3 e4 : Dy} : mnN e1 e2 e3 e4 3 = e1 ∨ mnN e1 e2 e3 e4 3 = e2 ∨ mnN e1 e2 e3 e4 3 = e3 ∨ mnN e1 e2 e3 e4 3 = e4 := by
  show minD (minD (minD e1 e2) e3) e4 = e1 ∨ minD (minD (minD e1 e2) e3) e4 = e2 ∨ minD (minD (minD e1 e2) e3) e4 = e3 ∨ minD (minD (minD e1 e2) e3) e4 = e4
  have key : ∀ x y : Dy, minD x y = x ∨ minD x y = y := fun x y => by unfold minD; split <;> simp
  rcases key (minD (minD e1 e2) e3) e4 with h | h
  · rw [h]
    rcases key (minD e1 e2) e3 with h | h
    · rw [h]
      rcases key e1 e2 with h | h
      · exact .inl h
      · exact .inr (.inl h)
    · exact .inr (.inr (.inl h))
  · exact .inr (.inr (.inr h))
theorem mx_in {e1 e2 e3 e4 : Dy} : mxN e1 e2 e3 e4 3 = e1 ∨ mxN e1 e2 e3 e4 3 = e2 ∨ mxN e1 e2 e3 e4 3 = e3 ∨ mxN e1 e2 e3 e4 3 = e4 := by
  show maxD (maxD (maxD e1 e2) e3) e4 = e1 ∨ maxD (maxD (maxD e1 e2) e3) e4 = e2 ∨ maxD (maxD (maxD e1 e2) e3) e4 = e3 ∨ maxD (maxD (maxD e1 e2) e3) e4 = e4
  have key : ∀ x y : Dy, maxD x y = x ∨ maxD x y = y := fun x y => by unfold maxD; split <;> simp
  rcases key (maxD (maxD e1 e2) e3) e4 with h | h
  · rw [h]
    rcases key (maxD e1 e2) e3 with h | h
    · rw [h]
      rcases key e1 e2 with h | h
      · exact .inl h
      · exact .inr (.inl h)
    · exact .inr (.inr (.inl h))
  · exact .inr (.inr (.inr h))
theorem sqL_in {x y : Dy} : sqL x y = mulD x x ∨ sqL x y = mulD y y ∨ sqL x y = dy0 := by
  unfold sqL
  split
  · exact .inr (.inr rfl)
  · split
    · exact .inr (.inl rfl)
    · exact .inl rfl
theorem sqH_in {x y : Dy} : sqH x y = mulD x x ∨ sqH x y = mulD y y := by
  unfold sqH
  split
  · exact .inl rfl
  · exact .inr rfl
theorem sqL_ok (x y : Dy) : (sqL x y).Ok := by rcases sqL_in (x := x) (y := y) with h | h | h <;> rw [h] <;> first | exact mulD_ok _ _ | exact dy0_ok
theorem sqH_ok (x y : Dy) : (sqH x y).Ok := by rcases sqH_in (x := x) (y := y) with h | h <;> rw [h] <;> exact mulD_ok _ _
theorem mn_ok {e1 e2 e3 e4 : Dy} (h1 : e1.Ok) (h2 : e2.Ok) (h3 : e3.Ok) (h4 : e4.Ok) : (mnN e1 e2 e3 e4 3).Ok := by rcases mn_in (e1 := e1) (e2 := e2) (e3 := e3) (e4 := e4) with h | h | h | h <;> rw [h] <;> assumption
theorem mx_ok {e1 e2 e3 e4 : Dy} (h1 : e1.Ok) (h2 : e2.Ok) (h3 : e3.Ok) (h4 : e4.Ok) : (mxN e1 e2 e3 e4 3).Ok := by rcases mx_in (e1 := e1) (e2 := e2) (e3 := e3) (e4 := e4) with h | h | h | h <;> rw [h] <;> assumption

theorem minD_ok {x y : Dy} (hx : x.Ok) (hy : y.Ok) : (minD x y).Ok := by unfold minD; split <;> assumption
theorem maxD_ok {x y : Dy} (hx : x.Ok) (hy : y.Ok) : (maxD x y).Ok := by unfold maxD; split <;> assumption
theorem tE_neg {d : Dy} (h : d.Ok) : tE (negD d) = tE d := by
  unfold negD
  by_cases g : d.m = 0
  · rw [if_pos g, h.zero g]
  · rw [if_neg g]; rfl
def BoxS (S : VS) (i : Nat) (x y : RD) : Prop := ∃ k t u, k < S.c ∧ S.ρ i = .ptr k 0 ∧ S.σ k = some ⟨[bv x.neg, nats t x.l, iv x.e, bv y.neg, nats u y.l, iv y.e], true⟩
def Ends (e : Int) (x y : RD) (L U : Dy) : Prop := e = 0 → x = RD.of L ∧ y = RD.of U ∧ tE L = 0 ∧ tE U = 0
theorem AnsF.sp {c c' : Nat} {f : Int} {lo hi : Dy} {r : V} (h : AnsF c c' f lo hi r) (hc : c ≤ c') : ∃ t u x y e, r = .tup [rsV t u x y, iv e] ∧ Ends e x y lo hi ∧ (e = 0 → f = 0) ∧ (f = 0 → tE lo = 0 → tE hi = 0 → e = 0) := by
  obtain ⟨t, u, _, _, _, hr, _, _⟩ := h.an hc
  refine ⟨t, u, _, _, _, hr, fun he => ?_, fun he => (anE_told he).1, fun g h1 h2 => ?_⟩
  · obtain ⟨_, h1, h2, h3, h4⟩ := anE_told he
    rw [h3, h4]
    exact ⟨rfl, rfl, h1, h2⟩
  · unfold anE
    rw [if_pos g]
    exact ansE_zero.2 ⟨h1, h2⟩
theorem Ends.ok {e : Int} {x y : RD} {L U : Dy} (h : Ends e x y L U) (he : e = 0) (o1 : L.Ok) (o2 : U.Ok) : x.Ok ∧ y.Ok ∧ x.d = L ∧ y.d = U := by
  obtain ⟨rfl, rfl, h1, h2⟩ := h he
  obtain ⟨k1, e1⟩ := told_ok o1 h1
  obtain ⟨k2, e2⟩ := told_ok o2 h2
  exact ⟨k1, k2, e1, e2⟩
theorem zs_nn (t : Tok) {d : Dy} (c : Nat) (hd : RNum d) (h : leD dy0 d) : VSpec Tryz.prog F.surdref06_Z_Sign c [zV t d.neg d.m] (fun r _ => ∃ s : Int, r = iv s ∧ ¬ s < 0) :=
  (zsign_spec d.neg t d.m c hd.bits (fun h0 => hd.nz h0)).mono fun r c' hr => ⟨_, hr, by have := nn_iff.1 h; unfold Dy.sg at this; unfold sgW; omega⟩
theorem sure_c (x y : Dy) : sureD x y = -1 ∨ sureD x y = 0 ∨ sureD x y = 1 := by
  unfold sureD
  split
  · exact .inr (.inr rfl)
  · split
    · exact .inl rfl
    · exact .inr (.inl rfl)
theorem laws_law (t u t' u' : Tok) (a b p q : RD) (pos : Int) (c : Nat) (ha : Arg a.l) (hb : Arg b.l) (hp : Arg p.l) (hq : Arg q.l) (ht : Kn c t) (hu : Kn c u) (ht' : Kn c t') (hu' : Kn c u') (hk1 : -9223372036854775808 ≤ pos) (hk2 : pos < 9223372036854775808) :
    VSpec Tryz.prog F.surdlaw10_SpanLaws c [rsV t u a b, rsV t' u' p q, iv pos] (fun r _ => r = bv true) := by
  refine sG hm G.surdlaw10_SpanLaws ?_
  unfold C.surdlaw10_SpanLaws R.surdlaw10_SpanLaws cD
  refine zRF @nb_app ?_
  refine s_call (in10_spec t u a b (c + 2)) wS ?_
  rintro v c1 hc1 rfl
  refine zRF @nb_app ?_
  refine s_call (in10_spec t' u' p q c1) wS ?_
  rintro v c2 hc2 rfl
  refine zRF @nb_app ?_
  refine s_call (ofS_spec t u a b (c2 + 2) ha hb) wS ?_
  rintro v c3 hc3 ⟨w1, w2, rfl⟩
  by_cases kf : chkE a b = 0
  rotate_left
  · refine zRF kf ?_
    refine s_call (awake_spec (c3 + 1)) wS ?_
    rintro v c4 hc4 rfl
    refine zR ?_
    exact yE
  refine zRF kf ?_
  refine s_call (fits_spec' pos (c3 + 1)) wS ?_
  rintro v c4 hc4 rfl
  by_cases kp : fitE pos
  rotate_left
  · refine zRF kp ?_
    refine s_call (awake_spec c4) wS ?_
    rintro v c5 hc5 rfl
    refine zR ?_
    exact yE
  obtain ⟨fa, fb, hab⟩ := chk_ok kf
  have oa : a.Ok := ⟨ha, fa⟩
  have ob : b.Ok := ⟨hb, fb⟩
  have na := oa.num.ok
  have nb := ob.num.ok
  refine zSF kp ?_
  refine v_cond ?_
  refine zSF kp ?_
  refine vwp_skip ?_
  refine zS ?_
  obtain ⟨L, hL⟩ : ∃ L, L = rD (sqL a.d b.d) pos false := ⟨_, rfl⟩
  obtain ⟨U, hU⟩ : ∃ U, U = rD (sqH a.d b.d) pos true := ⟨_, rfl⟩
  have okl := sqL_ok a.d b.d
  have okh := sqH_ok a.d b.d
  have oL : L.Ok := by rw [hL]; exact rD_ok okl pos false
  have oU : U.Ok := by rw [hU]; exact rD_ok okh pos true
  have hLU : leD L U := by rw [hL, hU]; exact rD_ends okl okh (sqLH a.d b.d)
  have hL0 : leD dy0 L := by rw [hL]; exact rD_nn okl (sqL_nn _ _)
  have hL1 : leD L (sqL a.d b.d) := by rw [hL]; exact rD_lo okl
  have hU1 : leD (sqH a.d b.d) U := by rw [hU]; exact rD_hi okh
  have okm := mn_ok (mulD_ok a.d a.d) (mulD_ok a.d b.d) (mulD_ok b.d a.d) (mulD_ok b.d b.d)
  have okx := mx_ok (mulD_ok a.d a.d) (mulD_ok a.d b.d) (mulD_ok b.d a.d) (mulD_ok b.d b.d)
  obtain ⟨L2, hL2⟩ : ∃ L2, L2 = rD (mnP a.d b.d a.d b.d) pos false := ⟨_, rfl⟩
  obtain ⟨U2, hU2⟩ : ∃ U2, U2 = rD (mxP a.d b.d a.d b.d) pos true := ⟨_, rfl⟩
  have oL2 : L2.Ok := by rw [hL2]; exact rD_ok okm pos false
  have oU2 : U2.Ok := by rw [hU2]; exact rD_ok okx pos true
  have hLL : leD L2 L := by rw [hL, hL2]; exact rD_mono okm okl sq_in_mul.1
  have hUU : leD U U2 := by rw [hU, hU2]; exact rD_mono okh okx sq_in_mul.2
  have spS := fun cc => ssq_spec t u a b pos cc oa ob kf kp
  have spM := fun cc => mulS_spec t u t u a b a b pos cc ha hb ha hb
  rw [← hL, ← hU] at spS
  rw [← hL2, ← hU2] at spM
  clear hL2 hU2 okm okx
  -- squares within products
  refine v_cut3 (fun S => S.ρ 2 = iv pos ∧ BoxS S 7 a b ∧ BoxS S 8 p q ∧ c ≤ S.c ∧ ∃ e1 x1 y1, S.ρ 12 = iv e1 ∧ BoxS S 11 x1 y1 ∧ Ends e1 x1 y1 L U) ?_ ?_
  · refine zR ?_
    refine s_call (spS c4) wS ?_
    rintro v c5 hc5 hv
    obtain ⟨t1, u1, x1, y1, e1, rfl, hE1, _, _⟩ := hv.sp hc5
    clear hv
    refine zRF @nb_app ?_
    refine s_call (spM (c5 + 1)) wS ?_
    rintro v c6 hc6 hv
    obtain ⟨t2, u2, x2, y2, e2, rfl, hE2, _, _⟩ := hv.sp hc6
    clear hv
    refine zRF @nb_app ?_
    refine s_call (within10 t1 u1 t2 u2 x1 y1 x2 y2 e1 e2 (c6 + 1) (fun g1 g2 => by
      obtain ⟨k1, k2, k3, k4⟩ := hE1.ok g1 oL oU
      obtain ⟨k5, k6, k7, k8⟩ := hE2.ok g2 oL2 oU2
      exact ⟨k1, k2, k5, k6, by rw [k3, k4]; exact hLU, by rw [k3, k7]; exact hLL, by rw [k4, k8]; exact hUU⟩)) wS ?_
    rintro v c7 hc7 rfl
    refine zRF @nb_app ?_
    refine s_call (num10_spec e1 c7) wS ?_
    rintro v c8 hc8 rfl
    by_cases g1 : e1 = 0
    · obtain ⟨q1, q2, q3, q4⟩ := hE1 g1
      have rL := told_r' oL q3
      refine zRF (jn g1 @nb_app) ?_
      refine s_call (rds_of t1 u1 L U c8 oL oU q3 q4) (wSF (jn q1 q2)) ?_
      rintro v c9 hc9 ⟨k1, k2, rfl⟩
      refine zR ?_
      refine s_call (zs_nn k1 c9 rL hL0) wS ?_
      rintro v c10 hc10 ⟨s, rfl, hs⟩
      refine zRF hs ?_
      refine ⟨⟨c2, t, u, by dsimp only; omega, ?_⟩, ⟨c2 + 1, t', u', by dsimp only; omega, ?_⟩, by omega, e1, x1, y1, ?_, ⟨c5, t1, u1, by dsimp only; omega, ?_⟩, hE1⟩
      all_goals first | rfl | (simp (maxSteps := 4000000) (disch := omega) only [vm, ite_true, ite_false, eq_self, reduceIte, Nat.reduceEqDiff, Option.map, vst, List.length_cons, List.length_nil, List.set_cons_zero, List.set_cons_succ, List.map_cons, List.map_nil, Option.map_some, Option.bind_some, Nat.reduceAdd, Nat.reduceLT, Nat.reduceLeDiff, Nat.add_zero, and_self, k_ne, Nat.add_left_cancel_iff, ne_eq, Int.reduceEq, Int.reduceLT, Int.reduceLE, List.cons_append, List.nil_append, Nat.reduceDiv, Nat.reduceMul, Int.reduceToNat, Int.reduceAdd, Int.cast_ofNat_Int]) | rw [g1]
    · refine zRF (jn g1 @nb_app) ?_
      refine ⟨⟨c2, t, u, by dsimp only; omega, ?_⟩, ⟨c2 + 1, t', u', by dsimp only; omega, ?_⟩, by omega, e1, x1, y1, ?_, ⟨c5, t1, u1, by dsimp only; omega, ?_⟩, hE1⟩
      all_goals first | rfl | (simp (maxSteps := 4000000) (disch := omega) only [vm, ite_true, ite_false, eq_self, reduceIte, Nat.reduceEqDiff, Option.map, vst, List.length_cons, List.length_nil, List.set_cons_zero, List.set_cons_succ, List.map_cons, List.map_nil, Option.map_some, Option.bind_some, Nat.reduceAdd, Nat.reduceLT, Nat.reduceLeDiff, Nat.add_zero, and_self, k_ne, Nat.add_left_cancel_iff, ne_eq, Int.reduceEq, Int.reduceLT, Int.reduceLE, List.cons_append, List.nil_append, Nat.reduceDiv, Nat.reduceMul, Int.reduceToNat, Int.reduceAdd, Int.cast_ofNat_Int]) | rw [g1]
  clear spS spM
  rintro ⟨ρ, σ, c5⟩ ⟨r2, ⟨ka, t, u, ja, pa, sa⟩, ⟨kb, t', u', jb, pb, sb⟩, hc5, e1, x1, y1, r12, ⟨kx, t1, u1, jx, px, sx⟩, hE1⟩
  dsimp only at r2 ja pa sa jb pb sb hc5 r12 jx px sx
  -- less is less
  refine v_cut3 (fun S => S.ρ 2 = iv pos ∧ S.ρ 12 = iv e1 ∧ BoxS S 7 a b ∧ BoxS S 8 p q ∧ BoxS S 11 x1 y1 ∧ c5 ≤ S.c) ?_ ?_
  · obtain ⟨D1, hD1⟩ : ∃ D1, D1 = rD (addD a.d (negD q.d)) pos false := ⟨_, rfl⟩
    obtain ⟨D2, hD2⟩ : ∃ D2, D2 = rD (addD b.d (negD p.d)) pos true := ⟨_, rfl⟩
    have oD1 : D1.Ok := by rw [hD1]; exact rD_ok (addD_ok _ _) pos false
    have oD2 : D2.Ok := by rw [hD2]; exact rD_ok (addD_ok _ _) pos true
    have spD := fun cc => subS_spec t u t' u' a b p q pos cc ha hb hp hq
    rw [← hD1, ← hD2] at spD
    obtain ⟨o, ho⟩ : ∃ o, o = if chk2 a b p q = 0 then ordD a.d b.d p.d q.d else 0 := ⟨_, rfl⟩
    have spO := fun cc => ordS_spec t u t' u' a b p q cc ha hb hp hq
    rw [← ho] at spO
    have hso : chk2 a b p q = 0 → leD D1 D2 ∧ (sureD D1 D2 = -1 → o = -1) ∧ (sureD D1 D2 = 1 → o = 1) := fun g => by
      obtain ⟨_, k2⟩ := chk2_ok g
      obtain ⟨_, _, hpq⟩ := chk_ok k2
      obtain ⟨h1, h2⟩ := ord_sub (pos := pos) hab hpq
      rw [ho, if_pos g, hD1, hD2]
      exact ⟨sub_ends hab hpq, h1, h2⟩
    clear ho hD1 hD2
    refine zRF (jn r2 (jn pa (jn pb (jn sa (jn sb @nb_app))))) ?_
    refine s_call (spO c5) (wSF (jn pa (jn pb (jn sa sb)))) ?_
    rintro v c6 hc6 rfl
    refine zRF (jn r2 (jn pa (jn pb (jn sa (jn sb @nb_app))))) ?_
    refine s_call (spD c6) (wSF (jn r2 (jn pa (jn pb (jn sa sb))))) ?_
    rintro v c7 hc7 hv
    obtain ⟨tD, uD, xD, yD, eD, rfl, hED, _, _⟩ := hv.sp hc7
    clear hv spO spD
    refine zRF @nb_app ?_
    refine s_call (all10_spec _ (chk2 a b p q) eD (c7 + 2)) wSr ?_
    rintro v c8 hc8 rfl
    by_cases g1 : chk2 a b p q = 0
    rotate_left
    · rw [show (decide (chk2 a b p q = 0) && decide (eD = 0)) = false from by rw [decide_eq_false g1]; rfl]
      refine zRF (jn r2 (jn r12 @nb_app)) ?_
      refine ⟨⟨ka, t, u, by dsimp only; omega, ?_⟩, ⟨kb, t', u', by dsimp only; omega, ?_⟩, ⟨kx, t1, u1, by dsimp only; omega, ?_⟩, by omega⟩
      all_goals simp (maxSteps := 4000000) (disch := omega) only [vm, ite_true, ite_false, eq_self, reduceIte, Nat.reduceEqDiff, Option.map, vst, List.length_cons, List.length_nil, List.set_cons_zero, List.set_cons_succ, List.map_cons, List.map_nil, Option.map_some, Option.bind_some, Nat.reduceAdd, Nat.reduceLT, Nat.reduceLeDiff, Nat.add_zero, and_self, k_ne, Nat.add_left_cancel_iff, ne_eq, Int.reduceEq, Int.reduceLT, Int.reduceLE, List.cons_append, List.nil_append, Nat.reduceDiv, Nat.reduceMul, Int.reduceToNat, Int.reduceAdd, Int.cast_ofNat_Int, pa, pb, px, sa, sb, sx]
    by_cases g2 : eD = 0
    rotate_left
    · rw [show (decide (chk2 a b p q = 0) && decide (eD = 0)) = false from by rw [decide_eq_false g2, Bool.and_false]]
      refine zRF (jn r2 (jn r12 @nb_app)) ?_
      refine ⟨⟨ka, t, u, by dsimp only; omega, ?_⟩, ⟨kb, t', u', by dsimp only; omega, ?_⟩, ⟨kx, t1, u1, by dsimp only; omega, ?_⟩, by omega⟩
      all_goals simp (maxSteps := 4000000) (disch := omega) only [vm, ite_true, ite_false, eq_self, reduceIte, Nat.reduceEqDiff, Option.map, vst, List.length_cons, List.length_nil, List.set_cons_zero, List.set_cons_succ, List.map_cons, List.map_nil, Option.map_some, Option.bind_some, Nat.reduceAdd, Nat.reduceLT, Nat.reduceLeDiff, Nat.add_zero, and_self, k_ne, Nat.add_left_cancel_iff, ne_eq, Int.reduceEq, Int.reduceLT, Int.reduceLE, List.cons_append, List.nil_append, Nat.reduceDiv, Nat.reduceMul, Int.reduceToNat, Int.reduceAdd, Int.cast_ofNat_Int, pa, pb, px, sa, sb, sx]
    rw [show (decide (chk2 a b p q = 0) && decide (eD = 0)) = true from by rw [decide_eq_true g1, decide_eq_true g2]; rfl]
    obtain ⟨hd0, hd1, hd2⟩ := hso g1
    obtain ⟨k1, k2, k3, k4⟩ := hED.ok g2 oD1 oD2
    have kc : chkE xD yD = 0 := chk_of k1.fit k2.fit (by rw [k3, k4]; exact hd0)
    refine zRF @nb_app ?_
    refine s_call (signS_spec tD uD xD yD c8 k1.arg k2.arg) wS ?_
    rw [kc, k3, k4, if_pos rfl]
    rintro v c9 hc9 rfl
    refine zR ?_
    refine s_call (num10_spec 0 c9) wS ?_
    rintro v c10 hc10 rfl
    rcases sure_c D1 D2 with hs | hs | hs
    · rw [hs, hd1 hs]
      refine zRF (jn r2 (jn r12 @nb_app)) ?_
      refine ⟨⟨ka, t, u, by dsimp only; omega, ?_⟩, ⟨kb, t', u', by dsimp only; omega, ?_⟩, ⟨kx, t1, u1, by dsimp only; omega, ?_⟩, by omega⟩
      all_goals simp (maxSteps := 4000000) (disch := omega) only [vm, ite_true, ite_false, eq_self, reduceIte, Nat.reduceEqDiff, Option.map, vst, List.length_cons, List.length_nil, List.set_cons_zero, List.set_cons_succ, List.map_cons, List.map_nil, Option.map_some, Option.bind_some, Nat.reduceAdd, Nat.reduceLT, Nat.reduceLeDiff, Nat.add_zero, and_self, k_ne, Nat.add_left_cancel_iff, ne_eq, Int.reduceEq, Int.reduceLT, Int.reduceLE, List.cons_append, List.nil_append, Nat.reduceDiv, Nat.reduceMul, Int.reduceToNat, Int.reduceAdd, Int.cast_ofNat_Int, pa, pb, px, sa, sb, sx]
    · rw [hs]
      refine zRF (jn r2 (jn r12 @nb_app)) ?_
      refine ⟨⟨ka, t, u, by dsimp only; omega, ?_⟩, ⟨kb, t', u', by dsimp only; omega, ?_⟩, ⟨kx, t1, u1, by dsimp only; omega, ?_⟩, by omega⟩
      all_goals simp (maxSteps := 4000000) (disch := omega) only [vm, ite_true, ite_false, eq_self, reduceIte, Nat.reduceEqDiff, Option.map, vst, List.length_cons, List.length_nil, List.set_cons_zero, List.set_cons_succ, List.map_cons, List.map_nil, Option.map_some, Option.bind_some, Nat.reduceAdd, Nat.reduceLT, Nat.reduceLeDiff, Nat.add_zero, and_self, k_ne, Nat.add_left_cancel_iff, ne_eq, Int.reduceEq, Int.reduceLT, Int.reduceLE, List.cons_append, List.nil_append, Nat.reduceDiv, Nat.reduceMul, Int.reduceToNat, Int.reduceAdd, Int.cast_ofNat_Int, pa, pb, px, sa, sb, sx]
    · rw [hs, hd2 hs]
      refine zRF (jn r2 (jn r12 @nb_app)) ?_
      refine ⟨⟨ka, t, u, by dsimp only; omega, ?_⟩, ⟨kb, t', u', by dsimp only; omega, ?_⟩, ⟨kx, t1, u1, by dsimp only; omega, ?_⟩, by omega⟩
      all_goals simp (maxSteps := 4000000) (disch := omega) only [vm, ite_true, ite_false, eq_self, reduceIte, Nat.reduceEqDiff, Option.map, vst, List.length_cons, List.length_nil, List.set_cons_zero, List.set_cons_succ, List.map_cons, List.map_nil, Option.map_some, Option.bind_some, Nat.reduceAdd, Nat.reduceLT, Nat.reduceLeDiff, Nat.add_zero, and_self, k_ne, Nat.add_left_cancel_iff, ne_eq, Int.reduceEq, Int.reduceLT, Int.reduceLE, List.cons_append, List.nil_append, Nat.reduceDiv, Nat.reduceMul, Int.reduceToNat, Int.reduceAdd, Int.cast_ofNat_Int, pa, pb, px, sa, sb, sx]
  clear r2 r12 pa sa pb sb px sx ja jb jx
  rintro ⟨ρ, σ, c6⟩ ⟨r2, r12, ⟨ka, t, u, ja, pa, sa⟩, ⟨kb, t', u', jb, pb, sb⟩, ⟨kx, t1, u1, jx, px, sx⟩, hcc⟩
  dsimp only at r2 r12 ja pa sa jb pb sb jx px sx hcc
  -- hulls
  refine v_cut3 (fun S => (∃ eM xM yM, S.ρ 24 = iv eM ∧ BoxS S 23 xM yM ∧ Ends eM xM yM (maxD a.d p.d) (minD b.d q.d) ∧ (eM = 0 → meetE a b p q = 0)) ∧ S.ρ 2 = iv pos ∧ S.ρ 12 = iv e1 ∧ BoxS S 7 a b ∧ BoxS S 8 p q ∧ BoxS S 11 x1 y1 ∧ c6 ≤ S.c) ?_ ?_
  · refine zRF (jn r2 (jn pa (jn pb (jn sa (jn sb @nb_app))))) ?_
    refine s_call (hull_spec t u t' u' a b p q c6 ha hb hp hq) (wSF (jn pa (jn pb (jn sa sb)))) ?_
    rintro v c7 hc7 hv
    obtain ⟨tH, uH, xH, yH, eH, rfl, hEH, hHf, _⟩ := hv.sp hc7
    clear hv
    refine zRF (jn pa (jn pb (jn sa (jn sb @nb_app)))) ?_
    refine s_call (meet_spec t u t' u' a b p q (c7 + 1) ha hb hp hq) (wSF (jn pa (jn pb (jn sa sb)))) ?_
    rintro v c8 hc8 hv
    obtain ⟨tM, uM, xM, yM, eM, rfl, hEM, hMf, _⟩ := hv.sp hc8
    clear hv
    refine zRF @nb_app ?_
    refine s_call (num10_spec eH (c8 + 1)) wS ?_
    rintro v c9 hc9 rfl
    by_cases g1 : eH = 0
    rotate_left
    · refine zRF (jn g1 (jn r2 (jn r12 @nb_app))) ?_
      refine ⟨⟨eM, xM, yM, ?_, ⟨c8, tM, uM, by dsimp only; omega, ?_⟩, hEM, hMf⟩, ⟨ka, t, u, by dsimp only; omega, ?_⟩, ⟨kb, t', u', by dsimp only; omega, ?_⟩, ⟨kx, t1, u1, by dsimp only; omega, ?_⟩, by omega⟩
      all_goals simp (maxSteps := 4000000) (disch := omega) only [vm, ite_true, ite_false, eq_self, reduceIte, Nat.reduceEqDiff, Option.map, vst, List.length_cons, List.length_nil, List.set_cons_zero, List.set_cons_succ, List.map_cons, List.map_nil, Option.map_some, Option.bind_some, Nat.reduceAdd, Nat.reduceLT, Nat.reduceLeDiff, Nat.add_zero, and_self, k_ne, Nat.add_left_cancel_iff, ne_eq, Int.reduceEq, Int.reduceLT, Int.reduceLE, List.cons_append, List.nil_append, Nat.reduceDiv, Nat.reduceMul, Int.reduceToNat, Int.reduceAdd, Int.cast_ofNat_Int, pa, pb, px, sa, sb, sx]
    obtain ⟨q1, q2⟩ := chk2_ok (hHf g1)
    obtain ⟨fp, fq, hpq⟩ := chk_ok q2
    have op : p.Ok := ⟨hp, fp⟩
    have oq : q.Ok := ⟨hq, fq⟩
    obtain ⟨k1, k2, k3, k4⟩ := hEH.ok g1 (minD_ok na op.num.ok) (maxD_ok nb oq.num.ok)
    have rh1 := k1.num.r
    have rh2 := k2.num.r
    have rdH := fun cc => rds10_spec tH uH xH yH cc k1 k2
    rw [k3, k4] at rdH
    rw [k3] at rh1
    rw [k4] at rh2
    refine zRF (jn g1 (jn pa (jn pb (jn sa (jn sb @nb_app))))) ?_
    refine s_call (rds10_spec t u a b c9 oa ob) (wSF (jn pa sa)) ?_
    rintro v c10 hc10 ⟨w1, w2, rfl⟩
    refine zRF @nb_app ?_
    refine s_call (rdH c10) wS ?_
    rintro v c11 hc11 ⟨w3, w4, rfl⟩
    refine zRF @nb_app ?_
    refine s_call (with10 w1 w2 w3 w4 c11 oa.num.r ob.num.r rh1 rh2 hab (minD_le1 _ _) (maxD_ge1 _ _)) wS ?_
    rintro v c12 hc12 rfl
    refine zRF (jn pa (jn pb (jn sa (jn sb @nb_app)))) ?_
    refine s_call (rds10_spec t' u' p q c12 op oq) (wSF (jn pb sb)) ?_
    rintro v c13 hc13 ⟨w5, w6, rfl⟩
    refine zRF @nb_app ?_
    refine s_call (rdH c13) wS ?_
    rintro v c14 hc14 ⟨w7, w8, rfl⟩
    refine zRF @nb_app ?_
    refine s_call (with10 w5 w6 w7 w8 c14 op.num.r oq.num.r rh1 rh2 hpq (minD_le2 _ _) (maxD_ge2 _ _)) wS ?_
    rintro v c15 hc15 rfl
    refine zRF (jn r2 (jn r12 @nb_app)) ?_
    refine ⟨⟨eM, xM, yM, ?_, ⟨c8, tM, uM, by dsimp only; omega, ?_⟩, hEM, hMf⟩, ⟨ka, t, u, by dsimp only; omega, ?_⟩, ⟨kb, t', u', by dsimp only; omega, ?_⟩, ⟨kx, t1, u1, by dsimp only; omega, ?_⟩, by omega⟩
    all_goals simp (maxSteps := 4000000) (disch := omega) only [vm, ite_true, ite_false, eq_self, reduceIte, Nat.reduceEqDiff, Option.map, vst, List.length_cons, List.length_nil, List.set_cons_zero, List.set_cons_succ, List.map_cons, List.map_nil, Option.map_some, Option.bind_some, Nat.reduceAdd, Nat.reduceLT, Nat.reduceLeDiff, Nat.add_zero, and_self, k_ne, Nat.add_left_cancel_iff, ne_eq, Int.reduceEq, Int.reduceLT, Int.reduceLE, List.cons_append, List.nil_append, Nat.reduceDiv, Nat.reduceMul, Int.reduceToNat, Int.reduceAdd, Int.cast_ofNat_Int, pa, pb, px, sa, sb, sx]
  clear r2 r12 pa sa pb sb px sx ja jb jx
  rintro ⟨ρ, σ, c7⟩ ⟨⟨eM, xM, yM, r24, ⟨km, tM, uM, jm, pm, sm⟩, hEM, hMf⟩, r2, r12, ⟨ka, t, u, ja, pa, sa⟩, ⟨kb, t', u', jb, pb, sb⟩, ⟨kx, t1, u1, jx, px, sx⟩, hcc⟩
  dsimp only at r24 jm pm sm r2 r12 ja pa sa jb pb sb jx px sx hcc
  -- meets
  refine v_cut (fun S => S.ρ 2 = iv pos ∧ S.ρ 12 = iv e1 ∧ BoxS S 7 a b ∧ BoxS S 8 p q ∧ BoxS S 11 x1 y1 ∧ c7 ≤ S.c) ?_ ?_
  · refine zRF (jn r24 @nb_app) ?_
    refine s_call (num10_spec eM c7) (wSF r24) ?_
    rintro v c8 hc8 rfl
    by_cases g1 : eM = 0
    rotate_left
    · refine zRF (jn g1 (jn r2 (jn r12 @nb_app))) ?_
      refine ⟨⟨ka, t, u, by dsimp only; omega, ?_⟩, ⟨kb, t', u', by dsimp only; omega, ?_⟩, ⟨kx, t1, u1, by dsimp only; omega, ?_⟩, by omega⟩
      all_goals simp (maxSteps := 4000000) (disch := omega) only [vm, ite_true, ite_false, eq_self, reduceIte, Nat.reduceEqDiff, Option.map, vst, List.length_cons, List.length_nil, List.set_cons_zero, List.set_cons_succ, List.map_cons, List.map_nil, Option.map_some, Option.bind_some, Nat.reduceAdd, Nat.reduceLT, Nat.reduceLeDiff, Nat.add_zero, and_self, k_ne, Nat.add_left_cancel_iff, ne_eq, Int.reduceEq, Int.reduceLT, Int.reduceLE, List.cons_append, List.nil_append, Nat.reduceDiv, Nat.reduceMul, Int.reduceToNat, Int.reduceAdd, Int.cast_ofNat_Int, pa, pb, px, sa, sb, sx]
    obtain ⟨_, hpq, hpb, haq, g0⟩ := meet_ok (hMf g1)
    obtain ⟨_, q2⟩ := chk2_ok g0
    obtain ⟨fp, fq, _⟩ := chk_ok q2
    have op : p.Ok := ⟨hp, fp⟩
    have oq : q.Ok := ⟨hq, fq⟩
    obtain ⟨k1, k2, k3, k4⟩ := hEM.ok g1 (maxD_ok na op.num.ok) (minD_ok nb oq.num.ok)
    have rh1 := k1.num.r
    have rh2 := k2.num.r
    have rdM := fun cc => rds10_spec tM uM xM yM cc k1 k2
    rw [k3, k4] at rdM
    rw [k3] at rh1
    rw [k4] at rh2
    have hmm : leD (maxD a.d p.d) (minD b.d q.d) := maxD_lub (minD_glb hab haq) (minD_glb hpb hpq)
    refine zRF (jn g1 (jn pm (jn sm (jn pa (jn pb (jn sa (jn sb @nb_app))))))) ?_
    refine s_call (rdM c8) (wSF (jn pm sm)) ?_
    rintro v c9 hc9 ⟨w1, w2, rfl⟩
    refine zRF (jn pm (jn sm (jn pa (jn pb (jn sa (jn sb @nb_app)))))) ?_
    refine s_call (rds10_spec t u a b c9 oa ob) (wSF (jn pa sa)) ?_
    rintro v c10 hc10 ⟨w3, w4, rfl⟩
    refine zRF @nb_app ?_
    refine s_call (with10 w1 w2 w3 w4 c10 rh1 rh2 oa.num.r ob.num.r hmm (maxD_ge1 _ _) (minD_le1 _ _)) wS ?_
    rintro v c11 hc11 rfl
    refine zRF (jn pm (jn sm (jn pa (jn pb (jn sa (jn sb @nb_app)))))) ?_
    refine s_call (rdM c11) (wSF (jn pm sm)) ?_
    rintro v c12 hc12 ⟨w5, w6, rfl⟩
    refine zRF (jn pm (jn sm (jn pa (jn pb (jn sa (jn sb @nb_app)))))) ?_
    refine s_call (rds10_spec t' u' p q c12 op oq) (wSF (jn pb sb)) ?_
    rintro v c13 hc13 ⟨w7, w8, rfl⟩
    refine zRF @nb_app ?_
    refine s_call (with10 w5 w6 w7 w8 c13 rh1 rh2 op.num.r oq.num.r hmm (maxD_ge2 _ _) (minD_le2 _ _)) wS ?_
    rintro v c14 hc14 rfl
    refine zRF (jn r2 (jn r12 @nb_app)) ?_
    refine ⟨⟨ka, t, u, by dsimp only; omega, ?_⟩, ⟨kb, t', u', by dsimp only; omega, ?_⟩, ⟨kx, t1, u1, by dsimp only; omega, ?_⟩, by omega⟩
    all_goals simp (maxSteps := 4000000) (disch := omega) only [vm, ite_true, ite_false, eq_self, reduceIte, Nat.reduceEqDiff, Option.map, vst, List.length_cons, List.length_nil, List.set_cons_zero, List.set_cons_succ, List.map_cons, List.map_nil, Option.map_some, Option.bind_some, Nat.reduceAdd, Nat.reduceLT, Nat.reduceLeDiff, Nat.add_zero, and_self, k_ne, Nat.add_left_cancel_iff, ne_eq, Int.reduceEq, Int.reduceLT, Int.reduceLE, List.cons_append, List.nil_append, Nat.reduceDiv, Nat.reduceMul, Int.reduceToNat, Int.reduceAdd, Int.cast_ofNat_Int, pa, pb, px, sa, sb, sx]
  clear r2 r12 pa sa pb sb px sx ja jb jx
  clear r24 pm sm
  rintro ⟨ρ, σ, c8⟩ ⟨r2, r12, ⟨ka, t, u, ja, pa, sa⟩, ⟨kb, t', u', jb, pb, sb⟩, ⟨kx, t1, u1, jx, px, sx⟩, hcc⟩
  dsimp only at r2 r12 ja pa sa jb pb sb jx px sx hcc
  -- going back: the negative's negative
  refine v_cut2 (fun S => S.ρ 2 = iv pos ∧ S.ρ 12 = iv e1 ∧ BoxS S 7 a b ∧ BoxS S 8 p q ∧ BoxS S 11 x1 y1 ∧ c8 ≤ S.c) ?_ ?_
  · refine zRF (jn r2 (jn pa (jn sa @nb_app))) ?_
    refine s_call (sneg_spec t u a b c8 ha hb) (wSF (jn pa sa)) ?_
    rintro v c9 hc9 hv
    obtain ⟨tN, uN, xN, yN, eN, rfl, hEN, _, _⟩ := hv.sp hc9
    clear hv
    refine zRF @nb_app ?_
    refine s_call (num10_spec eN (c9 + 1)) wS ?_
    rintro v c10 hc10 rfl
    by_cases g1 : eN = 0
    rotate_left
    · refine zRF (jn g1 (jn r2 (jn r12 @nb_app))) ?_
      refine ⟨⟨ka, t, u, by dsimp only; omega, ?_⟩, ⟨kb, t', u', by dsimp only; omega, ?_⟩, ⟨kx, t1, u1, by dsimp only; omega, ?_⟩, by omega⟩
      all_goals simp (maxSteps := 4000000) (disch := omega) only [vm, ite_true, ite_false, eq_self, reduceIte, Nat.reduceEqDiff, Option.map, vst, List.length_cons, List.length_nil, List.set_cons_zero, List.set_cons_succ, List.map_cons, List.map_nil, Option.map_some, Option.bind_some, Nat.reduceAdd, Nat.reduceLT, Nat.reduceLeDiff, Nat.add_zero, and_self, k_ne, Nat.add_left_cancel_iff, ne_eq, Int.reduceEq, Int.reduceLT, Int.reduceLE, List.cons_append, List.nil_append, Nat.reduceDiv, Nat.reduceMul, Int.reduceToNat, Int.reduceAdd, Int.cast_ofNat_Int, pa, pb, px, sa, sb, sx]
    obtain ⟨k1, k2, k3, k4⟩ := hEN.ok g1 (negD_ok nb) (negD_ok na)
    obtain ⟨_, _, tEb, tEa⟩ := hEN g1
    rw [tE_neg nb] at tEb
    rw [tE_neg na] at tEa
    have kc : chkE xN yN = 0 := chk_of k1.fit k2.fit (by rw [k3, k4]; exact neg_anti hab)
    have spN := fun cc => sneg_spec tN uN xN yN cc k1.arg k2.arg
    rw [k3, k4, negneg _ na, negneg _ nb] at spN
    refine zRF (jn g1 @nb_app) ?_
    refine s_call (spN c10) wS ?_
    rintro v c11 hc11 hv
    obtain ⟨t4, u4, x4, y4, e4, rfl, hE4, _, hg4⟩ := hv.sp hc11
    clear hv spN
    obtain rfl := hg4 kc tEa tEb
    obtain ⟨k5, k6, k7, k8⟩ := hE4.ok rfl na nb
    refine zRF (jn pa (jn sa @nb_app)) ?_
    refine s_call (Make_spec t u a b (c11 + 1) ha hb) (wSF (jn pa sa)) ?_
    rintro v c12 hc12 hv
    obtain ⟨t5, u5, x5, y5, e5, rfl, hE5, _, hg5⟩ := hv.sp hc12
    clear hv
    obtain rfl := hg5 kf tEa tEb
    obtain ⟨k9, k10, k11, k12⟩ := hE5.ok rfl na nb
    have rd4 := fun cc => rds10_spec t4 u4 x4 y4 cc k5 k6
    have rd5 := fun cc => rds10_spec t5 u5 x5 y5 cc k9 k10
    rw [k7, k8] at rd4
    rw [k11, k12] at rd5
    refine zRF @nb_app ?_
    refine s_call (all10_spec _ 0 0 (c12 + 1)) wSr ?_
    rw [show (decide ((0 : Int) = 0) && decide ((0 : Int) = 0)) = true from rfl]
    rintro v c13 hc13 rfl
    refine zRF @nb_app ?_
    refine s_call (rd4 c13) wS ?_
    rintro v c14 hc14 ⟨w1, w2, rfl⟩
    refine zRF @nb_app ?_
    refine s_call (rd5 c14) wS ?_
    rintro v c15 hc15 ⟨w3, w4, rfl⟩
    refine zRF @nb_app ?_
    refine s_call (rcmp_spec w1 w3 a.d a.d c15 oa.num.r oa.num.r) wS ?_
    rw [cmpD_self]
    rintro v c16 hc16 rfl
    refine zRF @nb_app ?_
    refine s_call (rd4 c16) wS ?_
    rintro v c17 hc17 ⟨w5, w6, rfl⟩
    refine zRF @nb_app ?_
    refine s_call (rd5 c17) wS ?_
    rintro v c18 hc18 ⟨w7, w8, rfl⟩
    refine zRF @nb_app ?_
    refine s_call (rcmp_spec w6 w8 b.d b.d c18 ob.num.r ob.num.r) wS ?_
    rw [cmpD_self]
    rintro v c19 hc19 rfl
    refine zRF (jn r2 (jn r12 @nb_app)) ?_
    refine ⟨⟨ka, t, u, by dsimp only; omega, ?_⟩, ⟨kb, t', u', by dsimp only; omega, ?_⟩, ⟨kx, t1, u1, by dsimp only; omega, ?_⟩, by omega⟩
    all_goals simp (maxSteps := 4000000) (disch := omega) only [vm, ite_true, ite_false, eq_self, reduceIte, Nat.reduceEqDiff, Option.map, vst, List.length_cons, List.length_nil, List.set_cons_zero, List.set_cons_succ, List.map_cons, List.map_nil, Option.map_some, Option.bind_some, Nat.reduceAdd, Nat.reduceLT, Nat.reduceLeDiff, Nat.add_zero, and_self, k_ne, Nat.add_left_cancel_iff, ne_eq, Int.reduceEq, Int.reduceLT, Int.reduceLE, List.cons_append, List.nil_append, Nat.reduceDiv, Nat.reduceMul, Int.reduceToNat, Int.reduceAdd, Int.cast_ofNat_Int, pa, pb, px, sa, sb, sx]
  clear r2 r12 pa sa pb sb px sx ja jb jx
  rintro ⟨ρ, σ, c9⟩ ⟨r2, r12, ⟨ka, t, u, ja, pa, sa⟩, ⟨kb, t', u', jb, pb, sb⟩, ⟨kx, t1, u1, jx, px, sx⟩, hcc⟩
  dsimp only at r2 r12 ja pa sa jb pb sb jx px sx hcc
  -- the sizes in the squares' roots
  refine v_cut2 (fun S => S.ρ 2 = iv pos ∧ S.ρ 12 = iv e1 ∧ BoxS S 7 a b ∧ BoxS S 8 p q ∧ BoxS S 11 x1 y1 ∧ c9 ≤ S.c) ?_ ?_
  · refine zRF (jn r2 (jn pa (jn sa @nb_app))) ?_
    refine s_call (sabs_spec t u a b c9 ha hb) (wSF (jn pa sa)) ?_
    rintro v c10 hc10 ⟨lo, hi, ol, oh, hlh, hv⟩
    obtain ⟨tA, uA, xA, yA, eA, rfl, hEA, hAf, _⟩ := hv.sp hc10
    clear hv
    refine zRF (jn r12 @nb_app) ?_
    refine s_call (all10_spec _ e1 eA (c10 + 2)) (wSrF r12) ?_
    rintro v c11 hc11 rfl
    by_cases g1 : e1 = 0
    rotate_left
    · rw [show (decide (e1 = 0) && decide (eA = 0)) = false from by rw [decide_eq_false g1]; rfl]
      refine zRF (jn r2 (jn r12 @nb_app)) ?_
      refine ⟨⟨ka, t, u, by dsimp only; omega, ?_⟩, ⟨kb, t', u', by dsimp only; omega, ?_⟩, ⟨kx, t1, u1, by dsimp only; omega, ?_⟩, by omega⟩
      all_goals simp (maxSteps := 4000000) (disch := omega) only [vm, ite_true, ite_false, eq_self, reduceIte, Nat.reduceEqDiff, Option.map, vst, List.length_cons, List.length_nil, List.set_cons_zero, List.set_cons_succ, List.map_cons, List.map_nil, Option.map_some, Option.bind_some, Nat.reduceAdd, Nat.reduceLT, Nat.reduceLeDiff, Nat.add_zero, and_self, k_ne, Nat.add_left_cancel_iff, ne_eq, Int.reduceEq, Int.reduceLT, Int.reduceLE, List.cons_append, List.nil_append, Nat.reduceDiv, Nat.reduceMul, Int.reduceToNat, Int.reduceAdd, Int.cast_ofNat_Int, pa, pb, px, sa, sb, sx]
    by_cases g2 : eA = 0
    rotate_left
    · rw [show (decide (e1 = 0) && decide (eA = 0)) = false from by rw [decide_eq_false g2, Bool.and_false]]
      refine zRF (jn r2 (jn r12 @nb_app)) ?_
      refine ⟨⟨ka, t, u, by dsimp only; omega, ?_⟩, ⟨kb, t', u', by dsimp only; omega, ?_⟩, ⟨kx, t1, u1, by dsimp only; omega, ?_⟩, by omega⟩
      all_goals simp (maxSteps := 4000000) (disch := omega) only [vm, ite_true, ite_false, eq_self, reduceIte, Nat.reduceEqDiff, Option.map, vst, List.length_cons, List.length_nil, List.set_cons_zero, List.set_cons_succ, List.map_cons, List.map_nil, Option.map_some, Option.bind_some, Nat.reduceAdd, Nat.reduceLT, Nat.reduceLeDiff, Nat.add_zero, and_self, k_ne, Nat.add_left_cancel_iff, ne_eq, Int.reduceEq, Int.reduceLT, Int.reduceLE, List.cons_append, List.nil_append, Nat.reduceDiv, Nat.reduceMul, Int.reduceToNat, Int.reduceAdd, Int.cast_ofNat_Int, pa, pb, px, sa, sb, sx]
    rw [show (decide (e1 = 0) && decide (eA = 0)) = true from by rw [decide_eq_true g1, decide_eq_true g2]; rfl]
    obtain ⟨m1, m2, m3, m4⟩ := hE1.ok g1 oL oU
    obtain ⟨k1, k2, k3, k4⟩ := hEA.ok g2 ol oh
    obtain ⟨z1, z2, z3, z4⟩ := hlh kf
    have kc : chkE x1 y1 = 0 := chk_of m1.fit m2.fit (by rw [m3, m4]; exact hLU)
    have spR := fun cc => ssqrt_spec t1 u1 x1 y1 pos cc m1.arg m2.arg kc kp
    rw [m3, m4] at spR
    refine zRF (jn r2 (jn px (jn sx @nb_app))) ?_
    refine s_call (spR c11) (wSF (jn r2 (jn px sx))) ?_
    rintro v c12 hc12 hv
    obtain ⟨tR, uR, xR, yR, eR, rfl, hR⟩ := hv.shape
    clear hv
    refine zRF (jn r12 @nb_app) ?_
    refine s_call (within10 tA uA tR uR xA yA xR yR eA eR (c12 + 1) (fun _ g3 => by
      rcases hR with ⟨h, _⟩ | ⟨_, l, h, rfl, rfl, ⟨_, f1, f2, f3, f4⟩, o1, o2, tl, th⟩
      · exact absurd g3 h
      · obtain ⟨n1, n2⟩ := told_ok o1 tl
        obtain ⟨n3, n4⟩ := told_ok o2 th
        obtain ⟨y1', y2'⟩ := size_in_root (pos := pos) z3 z4 z1 z2 hL1 hU1 f1 f2 f3 f4
        exact ⟨k1, k2, n1, n3, by rw [k3, k4]; exact z4, by rw [k3, n2]; exact y1', by rw [k4, n4]; exact y2'⟩)) wS ?_
    rintro v c13 hc13 rfl
    refine zRF (jn r2 (jn r12 @nb_app)) ?_
    refine ⟨⟨ka, t, u, by dsimp only; omega, ?_⟩, ⟨kb, t', u', by dsimp only; omega, ?_⟩, ⟨kx, t1, u1, by dsimp only; omega, ?_⟩, by omega⟩
    all_goals simp (maxSteps := 4000000) (disch := omega) only [vm, ite_true, ite_false, eq_self, reduceIte, Nat.reduceEqDiff, Option.map, vst, List.length_cons, List.length_nil, List.set_cons_zero, List.set_cons_succ, List.map_cons, List.map_nil, Option.map_some, Option.bind_some, Nat.reduceAdd, Nat.reduceLT, Nat.reduceLeDiff, Nat.add_zero, and_self, k_ne, Nat.add_left_cancel_iff, ne_eq, Int.reduceEq, Int.reduceLT, Int.reduceLE, List.cons_append, List.nil_append, Nat.reduceDiv, Nat.reduceMul, Int.reduceToNat, Int.reduceAdd, Int.cast_ofNat_Int, pa, pb, px, sa, sb, sx]
  clear r2 r12 pa sa pb sb px sx ja jb jx
  rintro ⟨ρ, σ, c10⟩ ⟨r2, r12, ⟨ka, t, u, ja, pa, sa⟩, ⟨kb, t', u', jb, pb, sb⟩, ⟨kx, t1, u1, jx, px, sx⟩, hcc⟩
  dsimp only at r2 r12 ja pa sa jb pb sb jx px sx hcc
  -- the inverse's inverse
  clear hE1 hLU hL0 hL1 hU1 hLL hUU
  refine zRF (jn r2 (jn pa (jn sa @nb_app))) ?_
  refine s_call (sinv_spec t u a b pos c10 ha hb kp) (wSF (jn r2 (jn pa sa))) ?_
  rintro v c11 hc11 hv
  obtain ⟨tI, uI, xI, yI, eI, rfl, hI⟩ := hv.shape
  clear hv
  refine zRF @nb_app ?_
  refine s_call (num10_spec eI (c11 + 1)) wS ?_
  rintro v c12 hc12 rfl
  by_cases g1 : eI = 0
  rotate_left
  · refine zRF (jn g1 @nb_app) ?_
    refine s_call (awake_spec c12) wS ?_
    rintro v c13 hc13 rfl
    refine zR ?_
    exact yE
  obtain ⟨_, i, j, rfl, rfl, ⟨_, q1⟩, oi, oj, ti, tj⟩ := hI.resolve_left (fun h => h.1 g1)
  obtain ⟨k1, k2⟩ := told_ok oi ti
  obtain ⟨k3, k4⟩ := told_ok oj tj
  refine zRF (jn g1 (jn r2 @nb_app)) ?_
  refine s_call (sinv_spec tI uI (RD.of i) (RD.of j) pos c12 k1.arg k3.arg kp) (wSF r2) ?_
  rw [k2, k4]
  rintro v c13 hc13 hv
  obtain ⟨tJ, uJ, xJ, yJ, eJ, rfl, hJ⟩ := hv.shape
  clear hv
  refine zRF @nb_app ?_
  refine s_call (num10_spec eJ (c13 + 1)) wS ?_
  rintro v c14 hc14 rfl
  by_cases g2 : eJ = 0
  rotate_left
  · refine zRF (jn g2 @nb_app) ?_
    refine s_call (awake_spec c14) wS ?_
    rintro v c15 hc15 rfl
    refine zR ?_
    exact yE
  obtain ⟨_, l, h, rfl, rfl, ⟨hij, q2⟩, ol, oh, tl, th⟩ := hJ.resolve_left (fun h => h.1 g2)
  obtain ⟨z1, z2⟩ := inv_twice hab hij q1 q2
  have rl := told_r' ol tl
  have rh := told_r' oh th
  refine zRF (jn g2 (jn pa (jn sa @nb_app))) ?_
  refine s_call (rds10_spec t u a b c14 oa ob) (wSF (jn pa sa)) ?_
  rintro v c15 hc15 ⟨w1, w2, rfl⟩
  refine zRF @nb_app ?_
  refine s_call (rds_of tJ uJ l h c15 ol oh tl th) wS ?_
  rintro v c16 hc16 ⟨w3, w4, rfl⟩
  refine zRF @nb_app ?_
  refine s_call (with10 w1 w2 w3 w4 c16 oa.num.r ob.num.r rl rh hab z1 z2) wS ?_
  rintro v c17 hc17 rfl
  refine zRF @nb_app ?_
  refine s_call (awake_spec c17) wS ?_
  rintro v c18 hc18 rfl
  refine zR ?_
  exact yE
end Go.Proofs.YtcafgpconlkecaaGreatDoor
