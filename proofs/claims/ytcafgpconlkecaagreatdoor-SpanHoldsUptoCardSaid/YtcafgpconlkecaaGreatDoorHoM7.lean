/- SpanHolds of the program holds: whatever spans and numbers come in (of bulk at most 1048576 in all, as the statement says), the law answers true, and memory that was there is as it was. -/
import Derived.Test.YtcafgpconlkecaaGreatDoorHoM6
import Derived.Test.YtcafgpconlkecaaGreatDoorCards
import Derived.Test.YtcafgpconlkecaaGreatDoorTie
import Derived.WalkKit
import Derived.ProofKit
import Derived.OpenShut
import Derived.Deep.DeepHandedRow
import Derived.Lib.LaidTab
set_option linter.unusedVariables false
set_option maxRecDepth 100000
namespace Go.Proofs.YtcafgpconlkecaaGreatDoor
open Go.VM Go.ChangeShapes Go.WideShapes Go.ChangeAt Go.RowKit

theorem own : ownKnob Tryz.prog.godebug = none := by kernel_rfl
theorem gTab : Tryz.prog.globalNamed "math/bits.deBruijn64tab" = some 0 := by kernel_rfl
theorem gTabType : (Tryz.prog.globals[0]?).map (·.type) = some 245 := by kernel_rfl
theorem cellsT : Tryz.prog.cellsOf 245 = 64 := by kernel_rfl
theorem cellsB : Tryz.prog.cellsOf 5 = 1 := by kernel_rfl
def tabZ : List Int := [0, 1, 56, 2, 57, 49, 28, 3, 61, 58, 42, 50, 38, 29, 17, 4, 62, 47, 59, 36, 45, 43, 51, 22, 53, 39, 33, 30, 24, 18, 12, 5, 63, 55, 48, 27, 60, 41, 37, 16, 46, 35, 44, 21, 52, 32, 23, 11, 54, 26, 40, 15, 34, 20, 31, 10, 25, 14, 19, 9, 13, 8, 7, 6]
theorem table {W : World} (h : laidMetH Tryz.prog Rows.spanHoldsRow.laid W) : ∀ g l, Go.VM.GT g = some l → g < W.heap.size ∧ ∃ arr T, W.heap[g]? = some (.cells arr T (0, 0)) ∧ Ones arr ∧ ∀ (j : Nat) (v : Value), l[j]? = some v → arr[j]? = some v := by
 intro g l hgl
 unfold Go.VM.GT at hgl
 split at hgl
 ·rename_i e
  subst e
  cases hgl
  have hT : Lib.TabIs Tryz.prog W "math/bits.deBruijn64tab" .u8 tabZ := Lib.tabIs_of_head (rest := []) gTab gTabType Tryz.underlying245 Tryz.underlying5 cellsB cellsT h
  exact glob_of_laid (rest := []) gTab hT (by decide) h
 ·cases hgl
theorem lim_bulk (n : Nat) (h : n ≤ 1048576) : n ≤ 1048576 := h
theorem laidOut : laidOutB Tryz.prog = true := by kernel_rfl
theorem dTy : DTy Tryz.prog 25 := ⟨_, _, _, _, Tryz.underlying25, by kernel_rfl, Tryz.underlying4, rfl, by kernel_rfl, Tryz.underlying23, rfl, by kernel_rfl, Tryz.underlying116, by kernel_rfl, Tryz.underlying3, rfl, by kernel_rfl⟩
theorem aTy : ATy Tryz.prog 91 := ⟨_, _, _, Tryz.underlying91, by kernel_rfl, Tryz.underlying3, rfl, by kernel_rfl, Tryz.underlying3, rfl, by kernel_rfl, Tryz.underlying3, rfl, by kernel_rfl⟩
theorem sTy : STy Tryz.prog 27 := ⟨_, _, Tryz.underlying27, by kernel_rfl, dTy, rfl, by kernel_rfl, dTy, rfl, by kernel_rfl⟩
theorem recA : Tryz.prog.readableRec 91 = true := by kernel_rfl
theorem sizA : 91 < Tryz.prog.types.size := of_decide_eq_true (by kernel_rfl)
theorem recS : Tryz.prog.readableRec 27 = true := by kernel_rfl
theorem sizS : 27 < Tryz.prog.types.size := of_decide_eq_true (by kernel_rfl)

theorem row_contract (H : Type) (enc : TypeId × Value → H) (W : World) (base : Nat) (args : Array Value) (ds gs : List (DataW H)) (before : List MemPlace)
  (hval : ∀ (j : Nat) t v, Tryz.f6.params[j]? = some t → args[j]? = some v → Value.okWide Tryz.prog W .any base t v)
  (hW : DataW.Whole enc Tryz.prog Tryz.f6.params.toList Rows.spanHoldsSpec.vars false W args.toList ds gs before) (hL : laidMetH Tryz.prog Rows.spanHoldsRow.laid W) (hk : Rows.uptoSmall H (ds ++ gs) = true) :
  Calls Tryz.prog 6 args W fun e W' => ∃ v, e = .returned v ∧ Rows.spanHoldsSpec.post enc Tryz.prog Tryz.f6 false true false false W args v W' := by
 have hW' := hW
 obtain ⟨p, q, hA0, hV, rfl, hfz, hnd⟩ := hW
 have hA : DataW.TrodAll enc Tryz.prog W 0 (fun _ => true) true Tryz.f6.params.toList args.toList ds p := hA0
 rw [Tryz.params6] at hA hval
 obtain ⟨v0, vs0, d0, ds0, p0, q0, hargs0, rfl, rfl, h0, r0⟩ := trodAll_cons hA
 obtain ⟨v1, vs1, d1, ds1, p1, q1, hargs1, rfl, rfl, h1, r1⟩ := trodAll_cons r0
 obtain ⟨v2, vs2, d2, ds2, p2, q2, hargs2, rfl, rfl, h2, r2⟩ := trodAll_cons r1
 obtain ⟨rfl, rfl, rfl⟩ := trodAll_nil r2
 obtain rfl : args = #[v0, v1, v2] := by cases args; simp_all
 obtain ⟨rfl, rfl⟩ := trodVars_none hV
 clear hA0
 simp only [List.append_nil] at hW' hk
 have hb : Rows.uptoBulkAll [d0, d1, d2] ≤ 1048576 := of_decide_eq_true hk
 have hold := fun x hx => hW'.lt x hx
 obtain ⟨na0, nb0, sa0, sb0, ka0, kb0, la0, lb0, rfl, oa0, ob0, ma0, mb0, ra0, rb0, bu0, wa0, wb0⟩ := span_cs sTy h0 (fun x hx => hold x (List.mem_append_left _ hx))
 obtain ⟨na1, nb1, sa1, sb1, ka1, kb1, la1, lb1, rfl, oa1, ob1, ma1, mb1, ra1, rb1, bu1, wa1, wb1⟩ := span_cs sTy h1 (fun x hx => hold x (List.mem_append_right _ (List.mem_append_left _ hx)))
 obtain ⟨i2, j2, k2, rfl, wi2, wj2, wk2⟩ := at_cs aTy h2
 obtain ⟨il2, iu2⟩ := wf_i64S wi2
 obtain ⟨jl2, ju2⟩ := wf_i64S wj2
 obtain ⟨kl2, ku2⟩ := wf_i64S wk2
 simp only [Rows.uptoBulkAll, Rows.uptoBulk] at hb
 have lla0 : la0.length ≤ 1048576 := by omega
 have llb0 : lb0.length ≤ 1048576 := by omega
 have lla1 : la1.length ≤ 1048576 := by omega
 have llb1 : lb1.length ≤ 1048576 := by omega
 obtain ⟨ca0, μa0, ta0, lea0, eqa0, kna0, hμa0, Ra0⟩ := told_more ra0 0 (fun _ => 0) (fun q hq => absurd hq (Nat.not_lt_zero _))
 obtain ⟨cb0, μb0, tb0, leb0, eqb0, knb0, hμb0, Rb0⟩ := told_more rb0 ca0 μa0 hμa0
 replace Ra0 := rep_more Ra0 leb0 eqb0
 replace kna0 := Told1.mono kna0 leb0
 obtain ⟨ca1, μa1, ta1, lea1, eqa1, kna1, hμa1, Ra1⟩ := told_more ra1 cb0 μb0 hμb0
 replace Ra0 := rep_more Ra0 lea1 eqa1
 replace kna0 := Told1.mono kna0 lea1
 replace Rb0 := rep_more Rb0 lea1 eqa1
 replace knb0 := Told1.mono knb0 lea1
 obtain ⟨cb1, μb1, tb1, leb1, eqb1, knb1, hμb1, Rb1⟩ := told_more rb1 ca1 μa1 hμa1
 replace Ra0 := rep_more Ra0 leb1 eqb1
 replace kna0 := Told1.mono kna0 leb1
 replace Rb0 := rep_more Rb0 leb1 eqb1
 replace knb0 := Told1.mono knb0 leb1
 replace Ra1 := rep_more Ra1 leb1 eqb1
 replace kna1 := Told1.mono kna1 leb1
 obtain ⟨r, c9, _, hc9, hr9⟩ := holds_law ta0 tb0 ta1 tb1 ⟨na0, la0, ka0⟩ ⟨nb0, lb0, kb0⟩ ⟨na1, la1, ka1⟩ ⟨nb1, lb1, kb1⟩ i2 j2 k2 cb1 ⟨ma0, lla0⟩ ⟨mb0, llb0⟩ ⟨ma1, lla1⟩ ⟨mb1, llb1⟩ kna0 knb0 kna1 knb1 il2 iu2 jl2 ju2 kl2 ku2
 subst hr9
 refine (calls_sameT hc9 W μb1 hμb1 #[.agg #[.bool na0, sa0, .int .i64 ka0, .bool nb0, sb0, .int .i64 kb0], .agg #[.bool na1, sa1, .int .i64 ka1, .bool nb1, sb1, .int .i64 kb1], .agg #[.int .i64 i2, .int .i64 j2, .int .i64 k2]] rfl (rep_intsS (l := [(rsV ta0 tb0 ⟨na0, la0, ka0⟩ ⟨nb0, lb0, kb0⟩, .agg #[.bool na0, sa0, .int .i64 ka0, .bool nb0, sb0, .int .i64 kb0]), (rsV ta1 tb1 ⟨na1, la1, ka1⟩ ⟨nb1, lb1, kb1⟩, .agg #[.bool na1, sa1, .int .i64 ka1, .bool nb1, sb1, .int .i64 kb1]), (.agg [iv i2, iv j2, iv k2], .agg #[.int .i64 i2, .int .i64 j2, .int .i64 k2])]) rfl rfl (fun p hp => ?_)) ⟨_, rfl⟩ (hg := table hL)).mono fun e W' ⟨v, he, hv, hs⟩ => ?_
 ·simp only [List.mem_cons, List.not_mem_nil, or_false] at hp
  rcases hp with rfl | rfl | rfl
  ·exact rep_span oa0 ob0 Ra0 Rb0
  ·exact rep_span oa1 ob1 Ra1 Rb1
  ·exact rep_at
 subst he
 cases hv
 exact ⟨_, rfl, post_kept (pa := p0 ++ (p1 ++ (p2))) (pv := []) hW' hs (fun _ _ _ => trodAll_cons_mk (shut_bool Tryz.underlying4 _) trodAll_mk0)
  (fun sp hsp => by
   have t0 := (trodAll_cons_mk (WideElems.Trod_stays laidOut recS sizS h0 (fun x hx => hs.sameAt (hold x (List.mem_append_left _ hx))) (fun x hx => hsp x (List.mem_append_left _ hx))) (trodAll_cons_mk (WideElems.Trod_stays laidOut recS sizS h1 (fun x hx => hs.sameAt (hold x (List.mem_append_right _ (List.mem_append_left _ hx)))) (fun x hx => hsp x (List.mem_append_right _ (List.mem_append_left _ hx)))) (trodAll_cons_mk (WideElems.Trod_stays laidOut recA sizA h2 (fun x hx => hs.sameAt (hold x (List.mem_append_right _ (List.mem_append_right _ hx)))) (fun x hx => hsp x (List.mem_append_right _ (List.mem_append_right _ hx)))) trodAll_mk0)))
   simp only [List.append_nil] at t0 ⊢
   rw [Tryz.params6]
   exact t0) (fun _ _ => rfl) (by simp)
  (ok_one (by kernel_rfl) rfl (okWide_bool_mk Tryz.underlying4 _))⟩

noncomputable def laidWorld (os : Os) : World :=
 { World.holding Tryz.prog os ⟨#[], #[], []⟩ with heap := (World.holding Tryz.prog os ⟨#[], #[], []⟩).heap.modify 0 fun
   | .cells _ t frozen => .cells (tabZ.map fun z => Value.int .u8 z).toArray t frozen
   | o => o }
theorem laid_met (os : Os) : laidMet Tryz.prog Rows.spanHoldsRow.laid ((laidWorld os).forCall (fun _ _ => 0) ⟨#[], #[.agg #[.bool false, .slice none 0 0, .int .i64 0, .bool false, .slice none 0 0, .int .i64 0], .agg #[.bool false, .slice none 0 0, .int .i64 0, .bool false, .slice none 0 0, .int .i64 0], .agg #[.int .i64 0, .int .i64 0, .int .i64 0]], []⟩).memory :=
 laidMet_of_run' 8 (by kernel_rfl) (by kernel_rfl)
theorem reads (os : Os) {H : Type} (enc : TypeId × Value → H) : ∃ places, DataW.whole enc Tryz.prog ((laidWorld os).forCall (fun _ _ => 0) ⟨#[], #[.agg #[.bool false, .slice none 0 0, .int .i64 0, .bool false, .slice none 0 0, .int .i64 0], .agg #[.bool false, .slice none 0 0, .int .i64 0, .bool false, .slice none 0 0, .int .i64 0], .agg #[.int .i64 0, .int .i64 0, .int .i64 0]], []⟩).memory Tryz.f6.params.toList Rows.spanHoldsSpec.vars false (#[.agg #[.bool false, .slice none 0 0, .int .i64 0, .bool false, .slice none 0 0, .int .i64 0], .agg #[.bool false, .slice none 0 0, .int .i64 0, .bool false, .slice none 0 0, .int .i64 0], .agg #[.int .i64 0, .int .i64 0, .int .i64 0]] : Array Value).toList 8 = some ([.agg [.agg [.lit (.bool false), .nil, .lit (.int .i64 0)], .agg [.lit (.bool false), .nil, .lit (.int .i64 0)]], .agg [.agg [.lit (.bool false), .nil, .lit (.int .i64 0)], .agg [.lit (.bool false), .nil, .lit (.int .i64 0)]], .agg [.lit (.int .i64 0), .lit (.int .i64 0), .lit (.int .i64 0)]], [], places) :=
 ⟨[], by kernel_rfl⟩

theorem row_lifted (os : Os) (started : os.Started) (H : Type) (enc : TypeId × Value → H) (F : Stop.Interp) :
  ReturnsInHanded {} Tryz.checked os 6 .any ((Rows.OpenSpec.upto Rows.spanHoldsSpec).preRow enc Tryz.prog Tryz.f6 Rows.spanHoldsUptoRow.domain false Rows.spanHoldsUptoRow.laid) (((Rows.OpenSpec.upto Rows.spanHoldsSpec).at F).post enc Tryz.prog Tryz.f6 false true false false) := by
 obtain ⟨places, hx⟩ := reads os enc
 refine returnsInHanded_of_row (C := Tryz.checked) (s := Rows.OpenSpec.upto Rows.spanHoldsSpec) own started (by kernel_rfl) Tryz.func6
  (witness_row_at (enc := enc) (C := Tryz.checked) false (laidWorld os) #[.agg #[.bool false, .slice none 0 0, .int .i64 0, .bool false, .slice none 0 0, .int .i64 0], .agg #[.bool false, .slice none 0 0, .int .i64 0, .bool false, .slice none 0 0, .int .i64 0], .agg #[.int .i64 0, .int .i64 0, .int .i64 0]] rfl (by kernel_rfl) (by kernel_rfl) (by kernel_rfl)
   (OpenSpec.preRow_of_cond 8 hx (by kernel_rfl) (fun k hk => by cases hk; kernel_rfl) (by kernel_rfl) (laid_met os))) ?_
 intro W base args ds gs before hval hW _ hk _ hL _ _
 exact row_contract H enc W base args ds gs before hval hW hL (hk _ rfl)

theorem said : Rows.SpanHoldsUptoSaid :=
 OpenClaim.holds_of_cond 6 Tryz.f6 rfl rfl rfl rfl rfl rfl rfl ⟨rfl, rfl, rfl, rfl, rfl⟩ rfl rfl rfl rfl rfl (by kernel_rfl) Tryz.func6 (by kernel_rfl)
  (of_decide_eq_true (by kernel_rfl)) (by unfold Func.isWrapper; first | (rw [if_pos (by decide +kernel)]; kernel_rfl) | (rw [if_neg (by decide +kernel)]; exact ⟨rfl, rfl⟩))
  (fun os started H enc _ F => by rw [OpenClaim.pre_eq_preRow]; exact row_lifted os started H enc F)

theorem plain (f : FuncId) (fn : Func) (hf : Tryz.pinned.checked.prog.funcNamed "surd/surdlaw10.SpanHolds" = some f) (hfn : Tryz.pinned.checked.prog.funcs[f]? = some fn) :
  false = Tryz.pinned.checked.prog.looks [] ∧ ∀ (j : Nat) t, fn.params[j]? = some t → Tryz.pinned.checked.prog.wantsStandIn t = false := by
 obtain rfl : f = 6 := Option.some.inj ((show Tryz.prog.funcNamed "surd/surdlaw10.SpanHolds" = some 6 by kernel_rfl).symm.trans hf) |>.symm
 obtain rfl : fn = Tryz.f6 := (Option.some.inj (Tryz.func6.symm.trans hfn)).symm
 refine ⟨by kernel_rfl, fun j t ht => ?_⟩
 rw [Tryz.params6] at ht
 have ht := Array.mem_of_getElem? ht
 simp only [List.mem_toArray, List.mem_cons, List.not_mem_nil, or_false] at ht
 rcases ht with rfl | rfl | rfl
 ·exact (show Tryz.prog.wantsStandIn 27 = false by kernel_rfl)
 ·exact (show Tryz.prog.wantsStandIn 27 = false by kernel_rfl)
 ·exact (show Tryz.prog.wantsStandIn 91 = false by kernel_rfl)
theorem row_holds : Rows.SpanHoldsUptoCardSaid :=
 Claim7.holds_tied_plain_at .later [] _ _ _ _ said (fun _ h => by cases h) (by kernel_rfl) (fun _ h => by cases h) spanHoldsUpto_row_tie rfl ⟨rfl, rfl⟩ (by kernel_rfl) rfl plain (by kernel_rfl)
#print axioms row_holds
end Go.Proofs.YtcafgpconlkecaaGreatDoor
