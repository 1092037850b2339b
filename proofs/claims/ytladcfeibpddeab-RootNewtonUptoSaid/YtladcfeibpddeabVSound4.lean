import Derived.Test.YtladcfeibpddeabVSound3
import Derived.Laws.IdiomCopy
set_option linter.unusedVariables false
set_option linter.unusedSimpArgs false
namespace Go.VM
open Go.RowKit

variable {F : Ctx} {S : VS} {a : Act} {w : World} {μ : Nat → Nat} {M : Nat → Prop} {c : Nat}

theorem run_enter {P : Program} {f : FuncId} {fn : Func} {c : Code} (hf : P.funcs[f]? = some fn) (hname : (fn.name == "runtime.NumGoroutine") = false) (hb : fn.body = some c) (args : Array Value) (w : World) :
    (callFunc f args).run P w = .ok (.enter f args) w := by
  have h1 : fn.name ≠ "runtime.NumGoroutine" := by simpa using hname
  simp [callFunc, hf, h1, hb]

theorem did_cpy (hI : Inv F S a w μ) {o : Oper} {draw : Bool} (hd : ∀ i, o.dst = some i → i < F.nt) {sz : Nat} {x y : X} (ho : resOp F.P draw o = .cpy sz x y) {t off n m : Nat} {cap : Option Nat} {cs ys : List V} (hx : x.ev S.ρ = .buf t off n cap sz) (ht : S.σ t = some ⟨cs, true⟩)
    (hy : vcells sz S.σ (y.ev S.ρ) = some ys) (hm : ys.length = m * sz) (h1 : off + n * sz ≤ cs.length) : Did F S a w o (.int .i64 ((min m n : Nat) : Int)) (supd S.σ t (some ⟨putCells cs off (ys.take (min m n * sz)), true⟩)) S.c none := by
  obtain ⟨cl, x0, y0, tt, u, e, i, hop, hcl, hargs, hats, htt, hi, hi1, rfl, hx0, hy0⟩ := inv_cpy ho
  obtain ⟨cp, of', ex, hof, hcp, htc, _, hcap, arrb, Tb, hb1, hb2⟩ := hx ▸ resX_rep hI.env hx0
  obtain ⟨arr, T, g1, g2, g3, g4⟩ := hI.mem.blk t _ ht
  have g2 : cs.length ≤ arr.size := g2
  simp only [Nat.mul_one] at hm h1 ⊢
  have hrunb : ∀ {u' : Value} {w' : World}, (Builtin.copy_ #[tt, u] o.type #[a.eval x0, a.eval y0]).run F.P w = .ok u' w' → (execOp a.eval o).run F.P w = .ok (.value u') w' := by
    intro u' w' h
    simp [execOp, hop, resolve, hcl, hargs, hats, invoke, builtin, h]
  rcases src_rep hI hy (resX_rep hI.env hy0) with ⟨ey, rfl⟩ | ⟨ad, m', cpy, news, ey, _, hm', hnl, hcell, hn1, hrep⟩
  · have hm0 : m = 0 := by simpa using hm.symm
    subst hm0
    simp only [Nat.zero_min, List.take_nil, putCells, supd_self ht]
    refine ⟨.value (.int .i64 0), .int .i64 0, w, μ, hrunb (by rw [ex, ey]; exact run_copy_nil F.P w tt u o.type e _ n cp htt (by simp [hi])), .inl rfl, hI.put o.dst hd (RepE.of_one (.lit _))⟩
  · have hmm : m' = m := by omega
    subst hmm
    by_cases h0 : min m' n = 0
    · rw [h0]
      simp only [List.take_zero, putCells, supd_self ht]
      refine ⟨.value (.int .i64 0), .int .i64 0, w, μ, hrunb ?_, .inl rfl, hI.put o.dst hd (RepE.of_one (.lit _))⟩
      rw [ex, ey]
      exact run_copy_none w tt u o.type e _ _ n cp m' cpy htt (by simp [hi, hi1]) h0
    · have hofe : of' = off := hof (by omega)
      subst hofe
      have hr := run_copy_row F.P w tt u o.type e (μ t) of' n cp ad m' cpy arr T (news.take (min m' n)) htt (by simp [hi, hi1]) g1 (by simp [hnl, hm])
        (fun j v hv => by rw [List.getElem?_take] at hv; split at hv; · exact hcell j v hv
                          · cases hv) (by simp; omega) (fun v hv => hn1 v (List.mem_of_mem_take hv))
      have hput := row_put (off := of') (xs := ys.take (min m' n)) (vs := news.take (min m' n)) g2 g3 g4 (by simp; omega) (fun v hv => hn1 v (List.mem_of_mem_take hv)) (fun j x v hx hv => by
        rw [List.getElem?_take] at hx hv
        split at hx
        · rename_i hj; rw [if_pos hj] at hv; exact hrep j x v hx hv
        · cases hx) (by simp; omega)
      have hB := mem_set hI.mem ht rfl g1 (arr := (arr.toList.take of' ++ news.take (min m' n) ++ arr.toList.drop (of' + (news.take (min m' n)).length)).toArray) (by simp; omega) hput
      have hlen : ((news.take (min m' n)).length : Int) = ((min m' n : Nat) : Int) := by simp; omega
      refine ⟨.value (goInt (news.take (min m' n)).length), goInt (news.take (min m' n)).length, _, μ, hrunb (by rw [ex, ey]; exact hr), .inl rfl, (hI.back hB).put o.dst hd ?_⟩
      unfold goInt
      rw [hlen]
      exact RepE.of_one (.lit _)

theorem resL_rep (hI : Inv F S a w μ) : ∀ (l : List Operand) (xs : List X), resL l = some xs → l.length = xs.length ∧ ∀ (j : Nat) (x : V) (v : Value), (xs.map (X.ev S.ρ))[j]? = some x → (l.map a.eval)[j]? = some v → RepE w (F.M S.σ w μ) μ S.c x v
  | [], xs, h => by simp [resL] at h; subst h; exact ⟨rfl, fun j x v hx => by simp at hx⟩
  | o :: l, xs, h => by
    simp only [resL] at h
    split at h
    · rename_i x r hx hr
      cases h
      obtain ⟨h1, h2⟩ := resL_rep hI l r hr
      refine ⟨by simp [h1], fun j y v hy hv => ?_⟩
      cases j with
      | zero => simp at hy hv; subst hy hv; exact resX_rep hI.env hx
      | succ j => simp only [List.map_cons, List.getElem?_cons_succ] at hy hv; exact h2 j y v hy hv
    · cases h

/-- a call by its contract -/
theorem wp_vcall (hI : Inv F S a w μ) {o : Oper} (hd : ∀ i, o.dst = some i → i < F.nt) {f : FuncId} {args : Array Operand} {xs : List X} (hrun : (execOp a.eval o).run F.P w = .ok (.enter f (args.map a.eval)) w) (hxs : resL args.toList = some xs)
    {σl σ' : Nat → Option Blk} {r : V} {c' : Nat} (hl : ∀ t k, σl t = some k → S.σ t = some k ∧ k.live = true) (h : VCalls F.P f S.c σl (xs.map (X.ev S.ρ)) r σ' c') {K : Act → World → Prop} {Q : Exit → Act → World → Prop}
    (hK : ∀ a' w' μ', Inv F ⟨updo S.ρ o.dst r, joinσ S.c S.σ σl σ', c'⟩ a' w' μ' → K a' w') : o.wp F.P a w K Q := by
  unfold Oper.wp
  rw [hrun]
  rw [Oper.upon_enter]
  obtain ⟨hlen, hrep⟩ := resL_rep hI args.toList xs hxs
  refine (h w (F.M S.σ w μ) μ (args.map a.eval) (mem_lend hI.mem hl) (by simpa using hlen) fun j x v hx hv => ?_).mono ?_
  · exact (hrep j x v hx (by simpa using hv)).mono (Grows.refl _) (fun _ _ => rfl) (fun b hb => lend_M hI.mem hb) (fun _ _ => rfl) (Nat.le_refl _)
  · rintro e w' ⟨v, μ', rfl, hm, hr⟩
    have hB := mem_back hI.mem hl hm
    exact hK _ _ _ ((hI.back hB).put o.dst hd (hr.mono (Grows.refl _) (fun _ _ => rfl) hB.res (fun _ _ => rfl) (Nat.le_refl _)))

theorem joinσ_none {F : Ctx} {σ : Nat → Option Blk} {c : Nat} {w : World} {μ : Nat → Nat} (h : Mem F σ c w μ) : joinσ c σ noBlk noBlk = σ := by
  funext t
  unfold joinσ noBlk
  simp only [Option.isSome_none, Bool.false_eq_true, false_or]
  split
  · rename_i hc
    cases hk : σ t with
    | none => rfl
    | some k => exact absurd (h.lt hk).1 (by omega)
  · rfl

theorem wp_did {o : Oper} {v : V} {σ' : Nat → Option Blk} {c' : Nat} {kt : Option Nat} (h : Did F S a w o v σ' c' kt) {K : Act → World → Prop} {Q : Exit → Act → World → Prop} (hK : ∀ a' w' μ', Inv F ⟨updo (kill kt S.ρ) o.dst v, σ', c'⟩ a' w' μ' → K a' w') : o.wp F.P a w K Q := by
  obtain ⟨r, u, w', μ', h1, h2, h3⟩ := h
  unfold Oper.wp
  rw [h1]
  rcases h2 with rfl | ⟨rfl, rfl⟩
  · exact hK _ _ _ h3
  · exact hK _ _ _ h3

theorem eff_sound (hI : Inv F S a w μ) {o : Oper} {draw : Bool} (hd : ∀ i, o.dst = some i → i < F.nt) {v : V} {σ' : Nat → Option Blk} {c' : Nat} {kt : Option Nat} {dr : Bool} (h : VEff F.P dr F.c0 (X.ev S.ρ) S.σ S.c (resOp F.P draw o) v σ' c' kt)
    {K : Act → World → Prop} {Q : Exit → Act → World → Prop} (hK : ∀ a' w' μ', Inv F ⟨updo (kill kt S.ρ) o.dst v, σ', c'⟩ a' w' μ' → K a' w') : o.wp F.P a w K Q := by
  generalize hvo : resOp F.P draw o = vo at h
  cases h with
  | pure h =>
    subst hvo
    obtain ⟨u, hu, hr⟩ := pure_run (w := w) hI.env h
    have hD : Did F S a w o v S.σ S.c none := ⟨.value u, u, w, μ, hu, .inl rfl, hI.put o.dst hd hr⟩
    exact wp_did hD hK
  | load h => exact wp_did (did_load hI hd hvo h) hK
  | store h => exact wp_did (did_store hI hd hvo h) hK
  | mk hl hq h1 h2 h3 => exact wp_did (did_mk hI hd hvo hl hq h1 h2 h3) hK
  | box h => exact wp_did (did_box hI hd hvo h) hK
  | alloc => exact wp_did (did_alloc hI hd hvo) hK
  | bsl h => exact wp_did (did_bsl1 hI hd hvo h) hK
  | bsl0 h => exact wp_did (did_bsl0 hI hd hvo h) hK
  | appNil hx hy hk h0 h2 h3 => exact wp_did (did_appNil hI hd hvo hx hy hk h0 h2 h3) hK
  | appNil0 hx hy => exact wp_did (did_appNil0 hI hd hvo hx hy) hK
  | appFit hx ht hy hk h1 h2 => exact wp_did (did_appFit hI hd hvo hx ht hy hk h1 h2) hK
  | appMove hx ht ht0 hy hk h1 h2 h3 => exact wp_did (did_appMove hI hd hvo hx ht ht0 hy hk h1 h2 h3) hK
  | cpy hx ht hy hm h1 => exact wp_did (did_cpy hI hd hvo hx ht hy hm h1) hK
  | call hdr hl h =>
    obtain ⟨cl, fn, b, hop, hc, hf, hn, hb, hxs⟩ := inv_call hvo
    refine wp_vcall hI hd (args := cl.args) ?_ hxs hl h hK
    simp [execOp, hop, resolve, hc, Act.eval, Deferred.ofValue, invoke, run_enter hf hn hb, Sem.run]
  | callp h =>
    obtain ⟨cl, fn, b, hop, hc, hf, hn, hb, hxs⟩ := inv_call hvo
    refine wp_vcall hI hd (args := cl.args) ?_ hxs (σl := noBlk) (fun t k h => by cases h) h (fun a' w' μ' hI' => hK a' w' μ' ?_)
    · simp [execOp, hop, resolve, hc, Act.eval, Deferred.ofValue, invoke, run_enter hf hn hb, Sem.run]
    · rw [joinσ_none hI.mem] at hI'; exact hI'
  | callv hx hb h =>
    obtain ⟨cl, t, hop, hc, rfl, hxs⟩ := inv_callv hvo
    obtain ⟨fn, b, hf, hn, hb⟩ := hb
    have hx' : S.ρ t = .lit (.func (.func _) #[] #[]) := hx
    have ex := hI.env t
    rw [hx'] at ex
    have ex' : a.eval (.tmp t) = .func (.func _) #[] #[] := repE_lit ex
    refine wp_vcall hI hd (args := cl.args) ?_ hxs (σl := noBlk) (fun t k h => by cases h) h (fun a' w' μ' hI' => hK a' w' μ' ?_)
    · simp [execOp, hop, resolve, hc, ex', Deferred.ofValue, invoke, run_enter hf hn hb, Sem.run]
    · rw [joinσ_none hI.mem] at hI'; exact hI'
end Go.VM
