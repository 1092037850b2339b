import Derived.Test.YtladcfeibpddeabVAny
set_option linter.unusedVariables false
set_option linter.unusedSimpArgs false
namespace Go.VM
open Go.RowKit

inductive VEx where
  | normal
  | exit (id : Nat)
  | ret

inductive VExec (P : Program) (c0 : Nat) : VC → VS → VEx → VS → Prop
  | skip (S : VS) : VExec P c0 .skip S .normal S
  | region {d : Bool} {ops : List VO} {S S' : VS} (h : VSteps P d c0 ops S S') : VExec P c0 (.region d ops) S .normal S'
  | seq {x y : VC} {S S1 S' : VS} {e : VEx} (h : VExec P c0 x S .normal S1) (k : VExec P c0 y S1 e S') : VExec P c0 (.seq x y) S e S'
  | seqOut {x y : VC} {S S' : VS} {e : VEx} (h : VExec P c0 x S e S') (he : e ≠ .normal) : VExec P c0 (.seq x y) S e S'
  | cond {x : X} {t : Bool} {p q : VC} {S S' : VS} {e : VEx} (hx : x.ev S.ρ = .lit (.bool t)) (h : VExec P c0 (if t then p else q) S e S') : VExec P c0 (.cond x p q) S e S'
  | block {id : Nat} {b : VC} {S S' : VS} {e : VEx} (h : VExec P c0 b S e S') (he : e ≠ .exit id) : VExec P c0 (.block id b) S e S'
  | blockExit {id : Nat} {b : VC} {S S' : VS} (h : VExec P c0 b S (.exit id) S') : VExec P c0 (.block id b) S .normal S'
  | loopOut {b : VC} {S S' : VS} {e : VEx} (h : VExec P c0 b S e S') (he : e ≠ .normal) : VExec P c0 (.loop b) S e S'
  | loop {b : VC} {S S1 S' : VS} {e : VEx} (h : VExec P c0 b S .normal S1) (k : VExec P c0 (.loop b) S1 e S') : VExec P c0 (.loop b) S e S'
  | exit (id : Nat) (S : VS) : VExec P c0 (.exit id) S (.exit id) S
  | ret (S : VS) : VExec P c0 .ret S .ret S
  | freeze {vc : VC} {S S' : VS} {e : VEx} {i t off n sz : Nat} {cap : Option Nat} {cells : List V} {lv : Bool} (hi : S.ρ i = .buf t off n cap sz) (ht : S.σ t = some ⟨cells, lv⟩) (h0 : c0 ≤ t) (hb : off + n * sz ≤ cells.length)
      (h : VExec P c0 vc (frozen S i t off sz cells ((cells.drop off).take (n * sz))) e S') : VExec P c0 vc S e S'
  | thaw {vc : VC} {S S' : VS} {e : VEx} {i t n sz : Nat} {l : List V} (hi : S.ρ i = .sl (.id t) sz l) (h0 : c0 ≤ t) (hn : l.length = n * sz) (hl : l ≠ []) (hs : ∀ x ∈ l, x.still t 4 = true)
      (h : VExec P c0 vc (thawed S i t n sz l) e S') : VExec P c0 vc S e S'

variable {F : Ctx} {S S' : VS} {a : Act} {w : World} {μ : Nat → Nat}

def VEx.to : VEx → Exit | .normal => .normal | .exit id => .exit id | .ret => .ret

def Post (F : Ctx) (e : VEx) (S' : VS) (e1 : Exit) (a : Act) (w : World) : Prop := e1 = e.to ∧ ∃ μ, Inv F S' a w μ

def LoopWp (P : Program) (c : Code) (Q : Exit → Act → World → Prop) (a : Act) (w : World) : Prop :=
  ∀ (b : Frame) (k : List Item) (cs : List Frame), ∃ e a' w', Q e a' w' ∧ Arrives P (lone (b.at a (.code c :: .inLoop c :: k)) cs w) b k cs e a' w'

theorem loopWp_wp {P : Program} {c : Code} {Q : Exit → Act → World → Prop} {a : Act} {w : World} (h : LoopWp P c Q a w) : (Code.loop c).wp P Q a w := by
  intro b k cs
  obtain ⟨e, a', w', hq, harr⟩ := h b k cs
  exact ⟨e, a', w', hq, .of_steps (.one step_loop) harr⟩

theorem loopWp_next {P : Program} {c : Code} {Q : Exit → Act → World → Prop} {a : Act} {w : World} (h : c.wp P (fun e a' w' => match e with | .normal => LoopWp P c Q a' w' | e => Q e a' w') a w) : LoopWp P c Q a w := by
  intro b k cs
  obtain ⟨e, a₁, w₁, hq, harr⟩ := h b (.inLoop c :: k) cs
  cases e with
  | normal =>
    obtain ⟨e₂, a₂, w₂, hq₂, harr₂⟩ := hq b k cs
    exact ⟨e₂, a₂, w₂, hq₂, .of_steps (Steps.trans harr (.one step_inLoop)) harr₂⟩
  | exit id => exact ⟨_, a₁, w₁, hq, .pass (x := .inLoop c) rfl (fun _ _ => .inl (by simp)) harr⟩
  | goto l => exact ⟨_, a₁, w₁, hq, .pass (x := .inLoop c) rfl (fun _ _ => .inl (by simp)) harr⟩
  | ret => exact ⟨_, a₁, w₁, hq, .pass (x := .inLoop c) rfl (fun _ _ => .inl (by simp)) harr⟩
  | panic ch => exact ⟨_, a₁, w₁, hq, .pass (x := .inLoop c) rfl (fun _ _ => .inl (by simp)) harr⟩
  | outgrown => exact ⟨_, a₁, w₁, hq, .pass (x := .inLoop c) rfl (fun _ _ => .inl (by simp)) harr⟩

def Sound (F : Ctx) (vc : VC) (S : VS) (e : VEx) (S' : VS) : Prop :=
  ∀ (code : Code), resCode F.P F.nt code = vc → ∀ (a : Act) (w : World) (μ : Nat → Nat), Inv F S a w μ → code.wp F.P (Post F e S') a w ∧ ∀ c, code = .loop c → LoopWp F.P c (Post F e S') a w

theorem exec_sound (hm : F.P.follows .mixedOrders = true) {vc : VC} {e : VEx} (h : VExec F.P F.c0 vc S e S') : Sound F vc S e S' := by
  induction h with
  | skip S =>
    intro code hc a w μ hI
    cases code <;> simp only [resCode] at hc <;> first | (revert hc; (repeat' split) <;> (intro hc; cases hc); done) | skip
    exact ⟨wp_skip ⟨rfl, μ, hI⟩, fun c h => by cases h⟩
  | region h =>
    intro code hc a w μ hI
    cases code <;> simp only [resCode] at hc <;> first | (revert hc; (repeat' split) <;> (intro hc; cases hc); done) | skip
    rename_i id ops draw
    split at hc
    · rename_i hok
      cases hc
      simp only [Bool.and_eq_true] at hok
      exact ⟨region_wp hm hok.1 hok.2 hI (K := fun S1 => S1 = _) (fun S1 a' w' μ' hk hI' => by subst hk; exact ⟨rfl, μ', hI'⟩) ⟨_, h, rfl⟩, fun c h => by cases h⟩
    · cases hc
  | seq h k ih1 ih2 =>
    intro code hc a w μ hI
    cases code <;> simp only [resCode] at hc <;> first | (revert hc; (repeat' split) <;> (intro hc; cases hc); done) | skip
    rename_i p q
    cases hc
    refine ⟨wp_seq (wp_mono (ih1 p rfl a w μ hI).1 ?_), fun c h => by cases h⟩
    rintro e a' w' ⟨rfl, μ', hI'⟩
    exact (ih2 q rfl a' w' μ' hI').1
  | seqOut h he ih =>
    intro code hc a w μ hI
    cases code <;> simp only [resCode] at hc <;> first | (revert hc; (repeat' split) <;> (intro hc; cases hc); done) | skip
    rename_i p q
    cases hc
    refine ⟨wp_seq (wp_mono (ih p rfl a w μ hI).1 ?_), fun c h => by cases h⟩
    rintro e a' w' ⟨rfl, μ', hI'⟩
    rename_i e0
    cases e0 with
    | normal => exact absurd rfl he
    | exit id => exact ⟨rfl, μ', hI'⟩
    | ret => exact ⟨rfl, μ', hI'⟩
  | cond hx h ih =>
    intro code hc a w μ hI
    cases code <;> simp only [resCode] at hc <;> first | (revert hc; (repeat' split) <;> (intro hc; cases hc); done) | skip
    rename_i o p q
    split at hc
    · rename_i x' hx'
      cases hc
      have hr := resX_rep hI.env hx'
      rw [hx] at hr
      have hb := repE_lit hr
      refine ⟨wp_cond hb ?_, fun c h => by cases h⟩
      refine (ih _ ?_ a w μ hI).1
      split <;> rfl
    · cases hc
  | block h he ih =>
    intro code hc a w μ hI
    cases code <;> simp only [resCode] at hc <;> first | (revert hc; (repeat' split) <;> (intro hc; cases hc); done) | skip
    rename_i id b
    cases hc
    refine ⟨wp_block (wp_mono (ih b rfl a w μ hI).1 ?_), fun c h => by cases h⟩
    rintro e a' w' ⟨rfl, μ', hI'⟩
    rename_i e0
    cases e0 with
    | normal => exact ⟨rfl, μ', hI'⟩
    | exit id' =>
      simp only [VEx.to, Exit.inBlock]
      rw [if_neg (fun e => he (by rw [e]))]
      exact ⟨rfl, μ', hI'⟩
    | ret => exact ⟨rfl, μ', hI'⟩
  | blockExit h ih =>
    intro code hc a w μ hI
    cases code <;> simp only [resCode] at hc <;> first | (revert hc; (repeat' split) <;> (intro hc; cases hc); done) | skip
    rename_i id b
    cases hc
    refine ⟨wp_block (wp_mono (ih b rfl a w μ hI).1 ?_), fun c h => by cases h⟩
    rintro e a' w' ⟨rfl, μ', hI'⟩
    simp only [VEx.to, Exit.inBlock, if_true]
    exact ⟨rfl, μ', hI'⟩
  | @loopOut b0 S0 S1 e0 h he ih =>
    intro code hc a w μ hI
    cases code <;> simp only [resCode] at hc <;> first | (revert hc; (repeat' split) <;> (intro hc; cases hc); done) | skip
    rename_i b
    cases hc
    have key : LoopWp F.P b (Post F e0 S1) a w := by
      refine loopWp_next (wp_mono (ih b rfl a w μ hI).1 ?_)
      rintro e a' w' ⟨rfl, μ', hI'⟩
      cases e0 with
      | normal => exact absurd rfl he
      | exit id => exact ⟨rfl, μ', hI'⟩
      | ret => exact ⟨rfl, μ', hI'⟩
    exact ⟨loopWp_wp key, fun c h => by cases h; exact key⟩
  | @loop b0 S0 Sm S1 e0 h k ih1 ih2 =>
    intro code hc a w μ hI
    cases code <;> simp only [resCode] at hc <;> first | (revert hc; (repeat' split) <;> (intro hc; cases hc); done) | skip
    rename_i b
    cases hc
    have key : LoopWp F.P b (Post F e0 S1) a w := by
      refine loopWp_next (wp_mono (ih1 b rfl a w μ hI).1 ?_)
      rintro e a' w' ⟨rfl, μ', hI'⟩
      exact (ih2 (.loop b) rfl a' w' μ' hI').2 b rfl
    exact ⟨loopWp_wp key, fun c h => by cases h; exact key⟩
  | exit id S =>
    intro code hc a w μ hI
    cases code <;> simp only [resCode] at hc <;> first | (revert hc; (repeat' split) <;> (intro hc; cases hc); done) | skip
    cases hc
    exact ⟨wp_exit ⟨rfl, μ, hI⟩, fun c h => by cases h⟩
  | ret S =>
    intro code hc a w μ hI
    cases code <;> simp only [resCode] at hc <;> first | (revert hc; (repeat' split) <;> (intro hc; cases hc); done) | skip
    exact ⟨wp_ret ⟨rfl, μ, hI⟩, fun c h => by cases h⟩
  | freeze hi ht h0 hb h ih =>
    intro code hc a w μ hI
    exact ih code hc a w μ (inv_freeze hI hi ht h0 hb)
  | thaw hi h0 hn hl hs h ih =>
    intro code hc a w μ hI
    exact ih code hc a w μ (inv_thaw hI hi h0 hn hl hs)

/-! ### a call's contract out of its body -/
def vres (S : VS) : VRes → Option V
  | .tmp t => if (S.ρ t).one then some (S.ρ t) else none
  | .cell t ag => match vload S.σ ag (S.ρ t) with | some v => if v.one then some v else none | none => none
def vresL (S : VS) : List VRes → Option (List V)
  | [] => some []
  | r :: l => match vres S r, vresL S l with | some v, some vs => some (v :: vs) | _, _ => none
def vresult (S : VS) (l : List VRes) : Option V := match vresL S l with | some [v] => some v | some vs => some (.tup vs) | none => none

theorem mem_drop {σ σ2 : Nat → Option Blk} {c : Nat} (h : Mem F σ c w μ) (h2 : ∀ t k, σ2 t = some k → σ t = some k) (h3 : ∀ t, F.σ0 t ≠ none → σ2 t = σ t) : Mem F σ2 c w μ ∧ ∀ b, F.M σ w μ b → F.M σ2 w μ b := by
  have hsub : ∀ b, F.M σ w μ b → F.M σ2 w μ b := by
    rintro b (hb | ⟨g1, g2, g3⟩)
    · exact .inl hb
    · exact .inr ⟨g1, g2, fun ⟨t, k, hk, hl, e⟩ => g3 ⟨t, k, h2 t k hk, hl, e⟩⟩
  refine ⟨⟨h.good, h.moved, h.c0, h.mu0, h.tok, h.inj, fun t k hk => h.dom t k (h2 t k hk), fun t ht => by rw [h3 t ht]; exact h.lent t ht, fun t k hk => ?_⟩, hsub⟩
  obtain ⟨arr, T, g1, g2, g3, g4⟩ := h.blk t k (h2 t k hk)
  exact ⟨arr, T, g1, g2, g3, fun i x v hx hv => (g4 i x v hx hv).mono (fun _ _ => rfl) hsub (fun _ _ _ => rfl) (Nat.le_refl _)⟩

def resF (tmps : Array Value) : ResultVar → Sem Value
  | .tmp t => pure (tmps.getD t undef)
  | .cell a t => do loadVar t (← asAddr (tmps.getD a undef))
theorem results_eq (fn : Func) (tmps : Array Value) : results fn tmps = (fn.results.mapM (resF tmps) >>= fun vs => pure (if h : vs.size = 1 then vs[0] else .tuple vs)) := by
  have : resF tmps = fun r => (match r with | .tmp t => pure (tmps.getD t undef) | .cell a t => do loadVar t (← asAddr (tmps.getD a undef)) : Sem Value) := by
    funext r; cases r <;> rfl
  unfold results
  rw [this]
  rfl

theorem run_res (hI : Inv F S a w μ) {r : ResultVar} {x : VRes} (hr : resResult F.P r = some x) {v : V} (hv : vres S x = some v) :
    ∃ u, (resF a.tmps r).run F.P w = .ok u w ∧ Rep w (F.M S.σ w μ) μ S.c v u := by
  cases r with
  | tmp t =>
    simp [resResult] at hr; subst hr
    simp only [vres] at hv
    split at hv
    · rename_i h1; cases hv
      exact ⟨_, by simp [resF, pure, Sem.run], (hI.env t).one h1⟩
    · cases hv
  | cell ad t =>
    simp only [resResult] at hr
    cases hag : aggOf F.P t with
    | none => simp [hag] at hr
    | some ag =>
      simp [hag] at hr; subst hr
      simp only [vres] at hv
      split at hv
      · rename_i v' hl
        split at hv
        · rename_i h1
          cases hv
          have hrep := hI.env ad
          unfold vload at hl
          split at hl
          · rename_i tk off he
            split at hl
            · rename_i b hb
              rw [he] at hrep
              obtain ⟨e, _⟩ := hrep
              obtain ⟨arr, T, g1, g2, g3, g4⟩ := blk_cells hI.mem hb
              obtain ⟨u, hu, hur⟩ := run_loadVar_gen F.P hl (ad := ⟨μ tk, off, none⟩) (vs := fun j => arr.getD (off + j) undef) (fun j hj => by rw [add_mk]; exact g3 _ hj) (fun j x hx => g4 _ x hx) hag
              exact ⟨u, by simp only [resF]; rw [e]; simp [asAddr, hu], hur⟩
            · cases hl
          · rename_i l i he
            rw [he] at hrep
            obtain ⟨ad', vs, e, g1, g2, g3⟩ := hrep
            obtain ⟨u, hu, hur⟩ := run_loadVar_gen F.P hl g2 g3 hag
            exact ⟨u, by simp only [resF]; rw [e]; simp [asAddr, hu], hur⟩
          · cases hl
        · cases hv
      · cases hv

theorem run_resL (hI : Inv F S a w μ) : ∀ (rs : List ResultVar) (xs : List VRes), resResults F.P rs = some xs → ∀ vs, vresL S xs = some vs →
    ∃ us, (rs.mapM (resF a.tmps)).run F.P w = .ok us w ∧ us.length = vs.length ∧ ∀ (j : Nat) (x : V) (u : Value), vs[j]? = some x → us[j]? = some u → Rep w (F.M S.σ w μ) μ S.c x u
  | [], xs, hr, vs, hv => by
    simp [resResults] at hr; subst hr
    simp [vresL] at hv; subst hv
    exact ⟨[], by simp [pure, Sem.run], rfl, fun j x u hx => by simp at hx⟩
  | r :: rs, xs, hr, vs, hv => by
    simp only [resResults] at hr
    split at hr
    · rename_i x l hx hl
      cases hr
      simp only [vresL] at hv
      split at hv
      · rename_i v vs' hv1 hv2
        cases hv
        obtain ⟨u, hu, hur⟩ := run_res hI hx hv1
        obtain ⟨us, hus, hlen, hrep⟩ := run_resL hI rs l hl vs' hv2
        refine ⟨u :: us, ?_, by simp [hlen], fun j y w' hy hw => ?_⟩
        · rw [List.mapM_cons, Sem.run_bind, hu]
          simp only [Result.andThen]
          rw [Sem.run_bind, hus]
          simp [pure, Sem.run]
        · cases j with
          | zero => simp at hy hw; subst hy hw; exact hur
          | succ j => simp at hy hw; exact hrep j y w' hy hw
      · cases hv
    · cases hr

def start (xs : List V) : Nat → V := fun i => xs.getD i .any

theorem vcalls_of_exec {P : Program} (hm : P.follows .mixedOrders = true) {f : FuncId} {fn : Func} {code : Code} {vc : VC} {rs : List VRes} (hf : P.funcs[f]? = some fn) (hb : fn.body = some code) (hvc : resCode P fn.ntmps code = vc) (hrs : resResults P fn.results.toList = some rs)
    {c : Nat} {σ : Nat → Option Blk} {xs : List V} (hn : xs.length ≤ fn.ntmps) {e : VEx} {S' : VS} (h : VExec P c vc ⟨start xs, σ, c⟩ e S') (he : e = .ret ∨ e = .normal) {r : V} (hr : vresult S' rs = some r)
    {σ' : Nat → Option Blk} (h2 : ∀ t k, σ' t = some k → S'.σ t = some k) (h3 : ∀ t, σ t ≠ none → σ' t = S'.σ t) : VCalls P f c σ xs r σ' S'.c := by
  intro w Φ μ vs hmem hlen hargs
  have hlen0 : vs.size ≤ fn.ntmps := by omega
  let F : Ctx := ⟨P, fn.ntmps, w, Φ, c, μ, σ⟩
  have hmemF : Mem F σ c w μ := ⟨⟨hmem.good.apart, hmem.good.lt, hmem.good.inj, hmem.good.low⟩, ⟨hmem.moved.os, hmem.moved.tape, hmem.moved.output, hmem.moved.size, hmem.moved.grows, hmem.moved.block⟩, hmem.c0, hmem.mu0, hmem.tok, hmem.inj, hmem.dom, hmem.lent, hmem.blk⟩
  have hI : Inv F ⟨start xs, σ, c⟩ { tmps := vs ++ Array.replicate (fn.ntmps - vs.size) undef, defers := [] } w μ := by
    refine ⟨by simp [F]; omega, rfl, hmemF, fun i => ?_⟩
    show RepE w _ μ c (xs.getD i .any) _
    by_cases hi : i < xs.length
    · have e1 : xs.getD i .any = xs[i] := by simp [List.getD, hi]
      have e2 : (vs ++ Array.replicate (fn.ntmps - vs.size) undef).getD i undef = vs[i]'(by omega) := by
        have : i < vs.size := by omega
        rw [Array.getD_eq_getD_getElem?, Array.getElem?_append, if_pos this]; simp [this]
      show RepE w _ μ c (xs.getD i .any) ((vs ++ Array.replicate (fn.ntmps - vs.size) undef).getD i undef)
      rw [e1, e2]
      exact hargs i _ _ (by simp [hi]) (by have : i < vs.size := by omega
                                           simp [this])
    · have e1 : xs.getD i .any = .any := by simp [List.getD, List.getElem?_eq_none (Nat.le_of_not_lt hi)]
      rw [e1]
      exact .any _
  have hs := (exec_sound (F := F) hm h code hvc _ w μ hI).1
  refine calls_of_wp hf hb (wp_mono hs ?_)
  rintro e1 a' w' ⟨he1, μ', hI'⟩
  have fin : ∃ v, (results fn a'.tmps).run P w' = .ok v w' ∧ ∃ v0 μ', Ending.returned v = .returned v0 ∧ Mem ⟨P, 0, w, Φ, c, μ, σ⟩ σ' S'.c w' μ' ∧ RepE w' (Ctx.M ⟨P, 0, w, Φ, c, μ, σ⟩ σ' w' μ') μ' S'.c r v0 := by
    unfold vresult at hr
    cases hl : vresL S' rs with
    | none => rw [hl] at hr; cases hr
    | some ws =>
      obtain ⟨us, hus, hlen, hrep⟩ := run_resL hI' fn.results.toList rs hrs ws hl
      obtain ⟨hd1, hd2⟩ := mem_drop hI'.mem h2 h3
      have hmem' : Mem ⟨P, 0, w, Φ, c, μ, σ⟩ σ' S'.c w' μ' := ⟨⟨hd1.good.apart, hd1.good.lt, hd1.good.inj, hd1.good.low⟩, ⟨hd1.moved.os, hd1.moved.tape, hd1.moved.output, hd1.moved.size, hd1.moved.grows, hd1.moved.block⟩, hd1.c0, hd1.mu0, hd1.tok, hd1.inj, hd1.dom, hd1.lent, hd1.blk⟩
      have hmap : (fn.results.mapM (resF a'.tmps)).run P w' = .ok us.toArray w' := by
        rw [Array.mapM_eq_mapM_toList]
        have hus' : (fn.results.toList.mapM (resF a'.tmps)).run P w' = .ok us w' := hus
        rw [Sem.run_map, hus']
        rfl
      have hrepM : ∀ (j : Nat) (x : V) (u : Value), ws[j]? = some x → us[j]? = some u → Rep w' (Ctx.M ⟨P, 0, w, Φ, c, μ, σ⟩ σ' w' μ') μ' S'.c x u := fun j x u hx hu => (hrep j x u hx hu).mono (fun _ _ => rfl) hd2 (fun _ _ _ => rfl) (Nat.le_refl _)
      rw [hl] at hr
      by_cases h1 : ∃ v, ws = [v]
      · obtain ⟨v, rfl⟩ := h1
        simp at hr; subst hr
        obtain ⟨u, rfl⟩ : ∃ u, us = [u] := by
          cases us with
          | nil => simp at hlen
          | cons u us => cases us with
            | nil => exact ⟨u, rfl⟩
            | cons _ _ => simp at hlen
        refine ⟨u, ?_, u, μ', rfl, hmem', RepE.of_one (hrepM 0 v u rfl rfl)⟩
        rw [results_eq, Sem.run_bind, hmap]
        simp [Result.andThen, pure, Sem.run]
      · have hr' : r = .tup ws := by
          split at hr
          · rename_i v hv; cases hv; exact absurd ⟨_, rfl⟩ h1
          · rename_i vs' hne hv; cases hv; cases hr; rfl
          · rename_i hv; cases hv
        subst hr'
        have hus1 : us.length ≠ 1 := by
          intro h
          rw [hlen] at h
          cases ws with
          | nil => simp at h
          | cons v ws => cases ws with
            | nil => exact h1 ⟨v, rfl⟩
            | cons _ _ => simp at h
        refine ⟨.tuple us.toArray, ?_, .tuple us.toArray, μ', rfl, hmem', RepE.of_one (.tup ws us.toArray (by simp [hlen]) fun j x u hx hu => hrepM j x u hx (by simpa using hu))⟩
        rw [results_eq, Sem.run_bind, hmap]
        simp [Result.andThen, pure, Sem.run, hus1]
  subst he1
  obtain ⟨v, hv1, hv2⟩ := fin
  rcases he with rfl | rfl
  · exact ⟨hI'.defers, v, hv1, hv2⟩
  · exact ⟨hI'.defers, v, hv1, hv2⟩
end Go.VM
