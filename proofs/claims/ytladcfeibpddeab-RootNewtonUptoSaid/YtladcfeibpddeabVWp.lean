import Derived.Test.YtladcfeibpddeabVExec
set_option linter.unusedVariables false
set_option linter.unusedSimpArgs false
namespace Go.VM

def VWP (P : Program) (c0 : Nat) (vc : VC) (Q : VEx → VS → Prop) (S : VS) : Prop := ∃ e S', VExec P c0 vc S e S' ∧ Q e S'
def VRun (P : Program) (dr : Bool) (c0 : Nat) (l : List VO) (S : VS) (K : VS → Prop) : Prop := ∃ S', VSteps P dr c0 l S S' ∧ K S'

/-! ### wp by recursion over the code -/
def wpr (P : Program) (dr : Bool) (c0 : Nat) (l : List VO) (S : VS) (K : VS → Prop) : Prop := VRun P dr c0 l S K
/-- the value is known: on with the rest -/
def stepK (P : Program) (dr : Bool) (c0 : Nat) (a : Option V) (d : Option Nat) (S : VS) (r : List VO) (K : VS → Prop) : Prop := ∃ v, a = some v ∧ wpr P dr c0 r ⟨updo S.ρ d v, S.σ, S.c⟩ K
def storeK (P : Program) (dr : Bool) (c0 : Nat) (a : Option (Nat → Option Blk)) (S : VS) (r : List VO) (K : VS → Prop) : Prop := ∃ σ', a = some σ' ∧ wpr P dr c0 r ⟨S.ρ, σ', S.c⟩ K
/-- a guarded operation -/
def guardK (P : Program) (dr : Bool) (c0 : Nat) (g : V) (b : Bool) (d : Option Nat) (op : VOp) (S : VS) (r : List VO) (K : VS → Prop) : Prop :=
  (g = .tup [] ∧ wpr P dr c0 r ⟨updo S.ρ d (.tup []), S.σ, S.c⟩ K) ∨ ∃ b', g = .lit (.bool b') ∧ (b' = b → ∃ v σ' c' kt, VEff P dr c0 (X.ev S.ρ) S.σ S.c op v σ' c' kt ∧ wpr P dr c0 r ⟨updo (kill kt S.ρ) d v, σ', c'⟩ K) ∧ (b' ≠ b → wpr P dr c0 r ⟨updo S.ρ d (.tup []), S.σ, S.c⟩ K)
/-- an operation that is taken by hand: call, append, make -/
def effK (P : Program) (dr : Bool) (c0 : Nat) (op : VOp) (d : Option Nat) (S : VS) (r : List VO) (K : VS → Prop) : Prop :=
  ∃ v σ' c' kt, VEff P dr c0 (X.ev S.ρ) S.σ S.c op v σ' c' kt ∧ wpr P dr c0 r ⟨updo (kill kt S.ρ) d v, σ', c'⟩ K

section
variable {P : Program} {dr : Bool} {c0 : Nat} {S : VS} {r : List VO} {K : VS → Prop} {d : Option Nat}

theorem wpr_eff {op : VOp} (h : effK P dr c0 op d S r K) : wpr P dr c0 (⟨d, op, none⟩ :: r) S K := by
  obtain ⟨v, σ', c', kt, h, S', hs, hk⟩ := h
  exact ⟨S', .cons (.run (fun t b hg => by cases hg) h) hs, hk⟩
theorem wpr_guard {op : VOp} {t : Nat} {b : Bool} (h : guardK P dr c0 (S.ρ t) b d op S r K) : wpr P dr c0 (⟨d, op, some (t, b)⟩ :: r) S K := by
  rcases h with ⟨hg, S', hs, hk⟩ | ⟨b', hg, h1, h2⟩
  · exact ⟨S', .cons (.skip rfl (.inr hg)) hs, hk⟩
  by_cases e : b' = b
  · obtain ⟨v, σ', c', kt, h, S', hs, hk⟩ := h1 e
    exact ⟨S', .cons (.run (fun t' b'' hg' => by cases hg'; rw [hg, e]) h) hs, hk⟩
  · obtain ⟨S', hs, hk⟩ := h2 e
    exact ⟨S', .cons (.skip rfl (.inl ⟨b', hg, e⟩)) hs, hk⟩
theorem wpr_pure {op : VOp} (h : stepK P dr c0 (vpure (X.ev S.ρ) op) d S r K) : wpr P dr c0 (⟨d, op, none⟩ :: r) S K := by
  obtain ⟨v, h, hk⟩ := h
  exact wpr_eff ⟨v, _, _, none, .pure h, hk⟩
theorem wpr_load {ag : Option Nat} {x : X} (h : stepK P dr c0 (vload S.σ ag (x.ev S.ρ)) d S r K) : wpr P dr c0 (⟨d, .load ag x, none⟩ :: r) S K := by
  obtain ⟨v, h, hk⟩ := h
  exact wpr_eff ⟨v, _, _, none, .load h, hk⟩
theorem wpr_store {n : Nat} {x y : X} (h : storeK P dr c0 (vstore S.σ n (x.ev S.ρ) (y.ev S.ρ)) S r K) : wpr P dr c0 (⟨none, .store n x y, none⟩ :: r) S K := by
  obtain ⟨σ', h, hk⟩ := h
  exact wpr_eff ⟨_, _, _, none, .store h, hk⟩
theorem wpr_nil (h : K S) : wpr P dr c0 [] S K := ⟨S, .nil S, h⟩
theorem wpr_box {x : X} {cs : List V} (h : (x.ev S.ρ).cells = some cs) (hk : wpr P dr c0 r ⟨updo S.ρ d (.ptr S.c 0), supd S.σ S.c (some ⟨cs, true⟩), S.c + 1⟩ K) : wpr P dr c0 (⟨d, .box x, none⟩ :: r) S K := wpr_eff ⟨_, _, _, none, .box h, hk⟩
theorem wpr_mk {z : List Value} {bytes : Nat} {l q : X} {kl kq : IntKind} {n cap : Nat} (hl : l.ev S.ρ = .lit (.int kl n)) (hq : q.ev S.ρ = .lit (.int kq cap)) (h1 : n ≤ cap) (h2 : cap * bytes ≤ 281474976710656) (h3 : cap ≤ 9223372036854775807)
    (hk : wpr P dr c0 r ⟨updo S.ρ d (.buf S.c 0 n (some cap) z.length), supd S.σ S.c (some ⟨rept z cap, true⟩), S.c + 1⟩ K) : wpr P dr c0 (⟨d, .mk z bytes l q, none⟩ :: r) S K := wpr_eff ⟨_, _, _, none, .mk hl hq h1 h2 h3, hk⟩
theorem wpr_callp {f : FuncId} {xs : List X} {v : V} {c' : Nat} (h : VCallP P f S.c (xs.map (X.ev S.ρ)) v c') (hk : wpr P dr c0 r ⟨updo S.ρ d v, S.σ, c'⟩ K) : wpr P dr c0 (⟨d, .call f xs, none⟩ :: r) S K := wpr_eff ⟨_, _, _, none, .callp h, hk⟩

theorem stepK_some {v : V} : stepK P dr c0 (some v) d S r K = wpr P dr c0 r ⟨updo S.ρ d v, S.σ, S.c⟩ K := by
  simp [stepK]
theorem stepK_none : stepK P dr c0 none d S r K = False := by simp [stepK]
theorem stepK_if {c : Prop} [Decidable c] {a b : Option V} : stepK P dr c0 (if c then a else none) d S r K = (c ∧ stepK P dr c0 a d S r K) := by
  by_cases h : c <;> simp [h, stepK]
theorem stepK_congr {a b : Option V} (h : a = b) : stepK P dr c0 a d S r K = stepK P dr c0 b d S r K := by rw [h]
theorem storeK_some {σ' : Nat → Option Blk} : storeK P dr c0 (some σ') S r K = wpr P dr c0 r ⟨S.ρ, σ', S.c⟩ K := by simp [storeK]
theorem storeK_none : storeK P dr c0 none S r K = False := by simp [storeK]
theorem storeK_if {c : Prop} [Decidable c] {a : Option (Nat → Option Blk)} : storeK P dr c0 (if c then a else none) S r K = (c ∧ storeK P dr c0 a S r K) := by
  by_cases h : c <;> simp [h, storeK]
theorem storeK_congr {a b : Option (Nat → Option Blk)} (h : a = b) : storeK P dr c0 a S r K = storeK P dr c0 b S r K := by rw [h]
end

section
variable {P : Program} {c0 : Nat} {S : VS} {Q : VEx → VS → Prop}

def thenQ (P : Program) (c0 : Nat) (y : VC) (Q : VEx → VS → Prop) : VEx → VS → Prop
  | .normal, S => VWP P c0 y Q S
  | e, S => Q e S
def blockQ (id : Nat) (Q : VEx → VS → Prop) : VEx → VS → Prop
  | .exit j, S => if j = id then Q .normal S else Q (.exit j) S
  | e, S => Q e S

theorem vwp_skip (h : Q .normal S) : VWP P c0 .skip Q S := ⟨_, _, .skip S, h⟩
theorem vwp_region {dr : Bool} {ops : List VO} (h : wpr P dr c0 ops S (Q .normal)) : VWP P c0 (.region dr ops) Q S := by
  obtain ⟨S', hs, hk⟩ := h
  exact ⟨_, _, .region hs, hk⟩
theorem vwp_seq {x y : VC} (h : VWP P c0 x (thenQ P c0 y Q) S) : VWP P c0 (.seq x y) Q S := by
  obtain ⟨e, S1, hx, hq⟩ := h
  cases e with
  | normal => obtain ⟨e, S', hy, hq⟩ := hq; exact ⟨e, S', .seq hx hy, hq⟩
  | exit id => exact ⟨_, S1, .seqOut hx (by intro h; cases h), hq⟩
  | ret => exact ⟨_, S1, .seqOut hx (by intro h; cases h), hq⟩
theorem vwp_cond {x : X} {t : Bool} {p q : VC} (hx : x.ev S.ρ = .lit (.bool t)) (h1 : t = true → VWP P c0 p Q S) (h2 : t = false → VWP P c0 q Q S) : VWP P c0 (.cond x p q) Q S := by
  cases t with
  | true => obtain ⟨e, S', h, hq⟩ := h1 rfl; exact ⟨e, S', .cond hx h, hq⟩
  | false => obtain ⟨e, S', h, hq⟩ := h2 rfl; exact ⟨e, S', .cond hx h, hq⟩
theorem vwp_block {id : Nat} {b : VC} (h : VWP P c0 b (blockQ id Q) S) : VWP P c0 (.block id b) Q S := by
  obtain ⟨e, S1, hx, hq⟩ := h
  cases e with
  | normal => exact ⟨_, S1, .block hx (by intro h; cases h), hq⟩
  | exit j =>
    by_cases e : j = id
    · subst e; simp only [blockQ, if_true] at hq; exact ⟨_, S1, .blockExit hx, hq⟩
    · simp only [blockQ, if_neg e] at hq; exact ⟨_, S1, .block hx (by intro h; cases h; exact e rfl), hq⟩
  | ret => exact ⟨_, S1, .block hx (by intro h; cases h), hq⟩
theorem vwp_exit {id : Nat} (h : Q (.exit id) S) : VWP P c0 (.exit id) Q S := ⟨_, _, .exit id S, h⟩
theorem vwp_ret (h : Q .ret S) : VWP P c0 .ret Q S := ⟨_, _, .ret S, h⟩
theorem vwp_mono {vc : VC} {Q' : VEx → VS → Prop} (h : VWP P c0 vc Q S) (hq : ∀ e S, Q e S → Q' e S) : VWP P c0 vc Q' S := by
  obtain ⟨e, S', h, q⟩ := h; exact ⟨e, S', h, hq _ _ q⟩
theorem vwp_freeze {vc : VC} (i t off n sz : Nat) (cap : Option Nat) (cells : List V) {lv : Bool} (hi : S.ρ i = .buf t off n cap sz) (ht : S.σ t = some ⟨cells, lv⟩) (h0 : c0 ≤ t) (hb : off + n * sz ≤ cells.length)
    (h : VWP P c0 vc Q (frozen S i t off sz cells ((cells.drop off).take (n * sz)))) : VWP P c0 vc Q S := by
  obtain ⟨e, S', h, hq⟩ := h
  exact ⟨e, S', .freeze hi ht h0 hb h, hq⟩

theorem vwp_thaw {vc : VC} (i t n sz : Nat) (l : List V) (hi : S.ρ i = .sl (.id t) sz l) (h0 : c0 ≤ t) (hn : l.length = n * sz) (hl : l ≠ []) (hs : ∀ x ∈ l, x.still t 4 = true)
    (h : VWP P c0 vc Q (thawed S i t n sz l)) : VWP P c0 vc Q S := by
  obtain ⟨e, S', h, hq⟩ := h
  exact ⟨e, S', .thaw hi h0 hn hl hs h, hq⟩
/-- a loop by what holds at each round's head ('n': what is left) -/
theorem vwp_loop {b : VC} (I : Nat → VS → Prop) (n : Nat) (h0 : I n S) (round : ∀ n S, I n S → VWP P c0 b (fun e S' => match e with | .normal => ∃ m, m < n ∧ I m S' | e => Q e S') S) : VWP P c0 (.loop b) Q S := by
  induction n using Nat.strongRecOn generalizing S with
  | _ n ih =>
    obtain ⟨e, S1, h, hq⟩ := round n S h0
    cases e with
    | normal =>
      obtain ⟨m, hm, hI⟩ := hq
      obtain ⟨e, S', h', hq'⟩ := ih m hm hI
      exact ⟨e, S', .loop h h', hq'⟩
    | exit id => exact ⟨_, S1, .loopOut h (by intro h; cases h), hq⟩
    | ret => exact ⟨_, S1, .loopOut h (by intro h; cases h), hq⟩
end

/-- a function's contract: an answer with 'Q', whoever calls -/
def VSpec (P : Program) (f : FuncId) (c : Nat) (xs : List V) (Q : V → Nat → Prop) : Prop := ∃ r c', c ≤ c' ∧ VCallP P f c xs r c' ∧ Q r c'

def retQ (rs : List VRes) (Q : V → Nat → Prop) : VEx → VS → Prop
  | .exit _, _ => False
  | _, S => ∃ r, vresult S rs = some r ∧ Q r S.c

theorem effs_le {P : Program} {dr : Bool} {c0 : Nat} {e : X → V} {σ σ' : Nat → Option Blk} {c c' : Nat} {o : VOp} {v : V} {kt : Option Nat} (h : VEff P dr c0 e σ c o v σ' c' kt) : True := trivial

theorem spec_mk {P : Program} (hm : P.follows .mixedOrders = true) {f : FuncId} {fn : Func} {code : Code} {vc : VC} {rs : List VRes} (hf : P.funcs[f]? = some fn) (hb : fn.body = some code) (hvc : resCode P fn.ntmps code = vc) (hrs : resResults P fn.results.toList = some rs)
    {c : Nat} {xs : List V} (hn : xs.length ≤ fn.ntmps) {Q : V → Nat → Prop} (h : VWP P c vc (retQ rs fun r c' => c ≤ c' ∧ Q r c') ⟨start xs, noBlk, c⟩) : VSpec P f c xs Q := by
  obtain ⟨e, S', he, hq⟩ := h
  have key : ∀ r, vresult S' rs = some r → (e = .ret ∨ e = .normal) → VCallP P f c xs r S'.c := fun r hr he' =>
    vcalls_of_exec hm hf hb hvc hrs hn he he' hr (fun t k h => by cases h) (fun t h => absurd rfl h)
  cases e with
  | normal => obtain ⟨r, hr, h1, h2⟩ := hq; exact ⟨r, S'.c, h1, key r hr (.inr rfl), h2⟩
  | ret => obtain ⟨r, hr, h1, h2⟩ := hq; exact ⟨r, S'.c, h1, key r hr (.inl rfl), h2⟩
  | exit id => exact hq.elim

theorem VSpec.mono {P : Program} {f : FuncId} {c : Nat} {xs : List V} {Q Q' : V → Nat → Prop} (h : VSpec P f c xs Q) (hq : ∀ r c', Q r c' → Q' r c') : VSpec P f c xs Q' := by
  obtain ⟨r, c', h0, h1, h2⟩ := h; exact ⟨r, c', h0, h1, hq _ _ h2⟩

/-- a call in a region, by its contract -/
theorem wpr_spec {P : Program} {dr : Bool} {c0 : Nat} {S : VS} {r : List VO} {K : VS → Prop} {d : Option Nat} {f : FuncId} {xs : List X} {ys : List V} {Q : V → Nat → Prop} (h : VSpec P f S.c ys Q) (he : xs.map (X.ev S.ρ) = ys)
    (hk : ∀ v c', S.c ≤ c' → Q v c' → wpr P dr c0 r ⟨updo S.ρ d v, S.σ, c'⟩ K) : wpr P dr c0 (⟨d, .call f xs, none⟩ :: r) S K := by
  obtain ⟨v, c', h0, h1, h2⟩ := h
  subst he
  exact wpr_callp h1 (hk v c' h0 h2)
theorem thenQ_normal {P : Program} {c0 : Nat} {y : VC} {Q : VEx → VS → Prop} {S : VS} : thenQ P c0 y Q .normal S = VWP P c0 y Q S := Eq.trans rfl rfl
theorem thenQ_exit {P : Program} {c0 : Nat} {y : VC} {Q : VEx → VS → Prop} {S : VS} {j : Nat} : thenQ P c0 y Q (.exit j) S = Q (.exit j) S := Eq.trans rfl rfl
theorem thenQ_ret {P : Program} {c0 : Nat} {y : VC} {Q : VEx → VS → Prop} {S : VS} : thenQ P c0 y Q .ret S = Q .ret S := Eq.trans rfl rfl
theorem blockQ_normal {id : Nat} {Q : VEx → VS → Prop} {S : VS} : blockQ id Q .normal S = Q .normal S := Eq.trans rfl rfl
theorem blockQ_exit {id j : Nat} {Q : VEx → VS → Prop} {S : VS} : blockQ id Q (.exit j) S = if j = id then Q .normal S else Q (.exit j) S := Eq.trans rfl rfl
theorem blockQ_ret {id : Nat} {Q : VEx → VS → Prop} {S : VS} : blockQ id Q .ret S = Q .ret S := Eq.trans rfl rfl
theorem retQ_ret {rs : List VRes} {Q : V → Nat → Prop} {S : VS} : retQ rs Q .ret S = ∃ r, vresult S rs = some r ∧ Q r S.c := Eq.trans rfl rfl
theorem retQ_normal {rs : List VRes} {Q : V → Nat → Prop} {S : VS} : retQ rs Q .normal S = ∃ r, vresult S rs = some r ∧ Q r S.c := Eq.trans rfl rfl
attribute [irreducible] thenQ blockQ retQ
end Go.VM
