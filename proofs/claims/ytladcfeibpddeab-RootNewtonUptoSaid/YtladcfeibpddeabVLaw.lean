import Derived.Test.YtladcfeibpddeabVSem
import Derived.Test.YtladcfeibpddeabRows
import Derived.WalkKit
import Derived.ProofKit
import Derived.OpenShut
import Derived.JoinedCond
set_option linter.unusedVariables false
set_option linter.unusedSimpArgs false
namespace Go.VM
open Go.RowKit Go.ChangeShapes Go.WideShapes Go.ChangeAt

/-- every block that was there is as it was -/
structure Same (W W' : World) : Prop where
  os : W'.os = W.os
  output : W'.output = W.output
  size : W.heap.size ≤ W'.heap.size
  block : ∀ b, b < W.heap.size → W'.heap[b]? = W.heap[b]?

theorem Same.cell {W W' : World} (h : Same W W') {a : Addr} (ha : a.block < W.heap.size) : W'.cell? a = W.cell? a := World.cell?_of_block (h.block _ ha)
theorem Same.keptBut {W W' : World} (h : Same W W') (may : MemPlace → Prop) : W.keptBut W' may := by
  refine ⟨h.os, h.output, fun i hi => ?_⟩
  have := h.block i hi
  rw [this]
  cases e : W.heap[i]? with
  | none => rfl
  | some o => cases o <;> simp
theorem Same.frozen {W W' : World} (h : Same W W') (a : Addr) (ha : a.block < W.heap.size) : W'.frozen? a = W.frozen? a := by
  unfold World.frozen?
  rw [h.block _ ha]

theorem post_kept {H : Type} {enc : TypeId × Value → H} {P : Program} {f : Func} {s : ChangeSpec} {apart fresh handsOn again : Bool} {W W' : World} {args : Array Value} {v : Value} {ds gs : List (DataW H)} {before pa pv : List MemPlace}
    (hW : DataW.Whole enc P f.params.toList s.vars apart W args.toList ds gs before) (hs : Same W W')
    (hres : ∀ (b : Nat) (sp : Nat → Bool) (hd : Bool), DataW.TrodAll enc P W' b sp hd f.resultTypes.toList (v.resultList f.resultTypes.size) (s.fn H (ds ++ gs)).results [])
    (hargs : ∀ sp : Nat → Bool, (∀ p ∈ before, sp p.block = true) → DataW.TrodAll enc P W' 0 sp true f.params.toList args.toList (s.fn H (ds ++ gs)).args pa)
    (hvars : ∀ sp : Nat → Bool, (∀ p ∈ before, sp p.block = true) → DataW.TrodVars enc P W' sp s.vars (s.fn H (ds ++ gs)).vars pv)
    (hps : before = pa ++ pv)
    (hok : ∀ (j : Nat) (t : TypeId) (r : Value), f.resultTypes[j]? = some t → (v.resultList f.resultTypes.size)[j]? = some r → Value.okWide P W' .any 0 t r) :
    s.post enc P f apart fresh handsOn again W args v W' := by
  have old : ∀ p ∈ before, decide (p.block < W.heap.size) = true := fun p hp => by simpa using hW.lt p hp
  have inn : ∀ p ∈ before, p ∈ pa ∨ p ∈ pv := fun p hp => by rw [hps] at hp; exact List.mem_append.1 hp
  refine ⟨ds, gs, before, [], pa, pv, hW, hres _ _ _, hargs _ old, hvars _ old, World.keptBut_mono (fun p hp => ⟨hp, .inr (inn p hp)⟩) (hs.keptBut (· ∈ before)), fun _ => ⟨hok, ?_⟩⟩
  have hW2 := hW
  obtain ⟨_, _, _, _, _, hz, hn⟩ := hW2
  refine ⟨_, _, pa ++ pv, ⟨[] ++ pa, pv, trodAll_append (hargs _ (fun _ _ => rfl)) (hres _ _ _), hvars _ (fun _ _ => rfl), by simp, ?_, ?_⟩, ?_⟩
  · intro b off hp
    rw [← hps] at hp
    rw [hs.frozen _ (hW.lt _ hp)]
    exact hz b off hp
  · intro ha
    rw [← hps]
    exact hn ha
  · intro p hp _
    rw [hps]; exact hp

/-- a call of the abstract machine, from the outside: no buffer is lent -/
theorem calls_same {P : Program} {f : FuncId} {xs : List V} {r : V} {c' : Nat} (h : VCallP P f 0 xs r c') (W : World) (vs : Array Value) (hn : vs.size = xs.length)
    (ha : ∀ (j : Nat) (x : V) (v : Value), xs[j]? = some x → vs[j]? = some v → Rep W (fun b => b < W.heap.size) (fun _ => 0) 0 x v) (hr : ∃ v0, r = .lit v0) :
    Calls P f vs W fun e W' => ∃ v, e = .returned v ∧ r = .lit v ∧ Same W W' := by
  have hM : ∀ b, b < W.heap.size → Ctx.M ⟨P, 0, W, fun _ => True, 0, fun _ => 0, noBlk⟩ noBlk W (fun _ => 0) b := fun b hb => .inl ⟨hb, trivial⟩
  refine Calls.mono (h W (fun _ => True) (fun _ => 0) vs ?_ hn fun j x v hx hv => ?_) ?_
  · refine ⟨⟨fun t ht => absurd rfl ht, fun t ht => absurd rfl ht, fun t t' ht => absurd rfl ht, fun t ht => absurd ht (Nat.not_lt_zero _)⟩, ⟨rfl, rfl, rfl, Nat.le_refl _, Grows.refl _, fun _ _ _ => rfl⟩, Nat.le_refl _, fun _ _ => rfl, fun t h1 h2 => absurd h2 (Nat.not_lt_zero _), fun t t' h1 h2 => absurd h2 (Nat.not_lt_zero _), fun t k hk => (by cases hk), fun t ht => absurd rfl ht, fun t k hk => (by cases hk)⟩
  · exact RepE.of_one ((ha j x v hx hv).mono (fun _ _ => rfl) hM (fun t ht => absurd ht (Nat.not_lt_zero _)) (Nat.le_refl _))
  · rintro e W' ⟨v, μ', rfl, hm, hv⟩
    obtain ⟨v0, rfl⟩ := hr
    refine ⟨v, rfl, congrArg V.lit ?_, hm.moved.os, hm.moved.output, hm.moved.size, fun b hb => hm.moved.block b hb (fun t ht => absurd rfl ht)⟩
    have := hv.one rfl
    cases this
    rfl
end Go.VM
