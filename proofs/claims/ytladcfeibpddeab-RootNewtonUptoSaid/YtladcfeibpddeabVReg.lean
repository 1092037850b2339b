import Derived.Test.YtladcfeibpddeabVSound4
set_option linter.unusedVariables false
set_option linter.unusedSimpArgs false
namespace Go.VM
open Go.RowKit

/-- a guard that says no: the other bool, or nothing (the guarding operation was passed by itself) -/
def skips (v : V) (b : Bool) : Prop := (∃ b', v = .lit (.bool b') ∧ b' ≠ b) ∨ v = .tup []

inductive VStep (P : Program) (dr : Bool) (c0 : Nat) (o : VO) (S : VS) : VS → Prop
  | skip {t : Nat} {b : Bool} (hg : o.guard = some (t, b)) (ht : skips (S.ρ t) b) : VStep P dr c0 o S ⟨updo S.ρ o.dst (.tup []), S.σ, S.c⟩
  | run {v : V} {σ' : Nat → Option Blk} {c' : Nat} {kt : Option Nat} (hg : ∀ t b, o.guard = some (t, b) → S.ρ t = .lit (.bool b)) (h : VEff P dr c0 (X.ev S.ρ) S.σ S.c o.op v σ' c' kt) : VStep P dr c0 o S ⟨updo (kill kt S.ρ) o.dst v, σ', c'⟩

/-- a buffer is written no more -/
def frozen (S : VS) (i t off sz : Nat) (cells l : List V) : VS := ⟨upd S.ρ i (.sl (Tok.from off t) sz l), supd S.σ t (some ⟨cells, false⟩), S.c⟩

inductive VSteps (P : Program) (dr : Bool) (c0 : Nat) : List VO → VS → VS → Prop
  | nil (S : VS) : VSteps P dr c0 [] S S
  | cons {o : VO} {r : List VO} {S S1 S' : VS} (h : VStep P dr c0 o S S1) (t : VSteps P dr c0 r S1 S') : VSteps P dr c0 (o :: r) S S'
  | frz {r : List VO} {S S' : VS} {i t off n sz : Nat} {cap : Option Nat} {cells : List V} {lv : Bool} (hdr : dr = false) (hi : S.ρ i = .buf t off n cap sz) (ht : S.σ t = some ⟨cells, lv⟩) (h0 : c0 ≤ t) (hb : off + n * sz ≤ cells.length)
      (h : VSteps P dr c0 r (frozen S i t off sz cells ((cells.drop off).take (n * sz))) S') : VSteps P dr c0 r S S'

variable {F : Ctx} {S S' : VS} {a : Act} {w : World} {μ : Nat → Nat} {ops : Array Oper} {Q : Exit → Act → World → Prop}

theorem tmps_none (hI : Inv F S a w μ) {t : Nat} (h : S.ρ t = .tup []) : a.tmps[t]? = none ∨ a.tmps[t]? = some (.tuple #[]) := by
  have hr := hI.env t
  rw [h] at hr
  have hr := hr.one rfl
  cases hq : a.tmps[t]? with
  | none => exact .inl rfl
  | some v =>
    rw [Array.getD_eq_getD_getElem?, hq] at hr
    simp only [Option.getD_some] at hr
    cases hr with
    | tup l cs hn hl =>
      have : cs = #[] := Array.eq_empty_of_size_eq_zero (by simpa using hn)
      subst this
      exact .inr rfl
theorem tmps_bool (hI : Inv F S a w μ) {t : Nat} {b : Bool} (h : S.ρ t = .lit (.bool b)) : a.tmps[t]? = some (.bool b) := by
  have hr := hI.env t
  rw [h] at hr
  have e := repE_lit hr
  rw [Array.getD_eq_getD_getElem?] at e
  cases hq : a.tmps[t]? with
  | none => rw [hq] at e; simp [undef] at e
  | some v => rw [hq] at e; simp at e; rw [e]

def gwant (b' : Bool) : Option (Nat × Bool) → Bool | some (_, b) => b' == b | none => true

theorem step_wp (hI : Inv F S a w μ) {i : Nat} {o : Oper} (hi : ops[i]? = some o) (hd : ∀ i, o.dst = some i → i < F.nt) {dr draw : Bool} (hs : VStep F.P dr F.c0 (resVO F.P draw ops o) S S') {K : Act → World → Prop}
    (hK : ∀ a' w' μ', Inv F S' a' w' μ' → K a' w') : wpOp F.P ops Q i K a w := by
  unfold wpOp
  simp only [hi]
  have hgd : ∀ g, resGuard ops o.guard = some g → resVO F.P draw ops o = ⟨o.dst, resOp F.P draw o, g⟩ := by
    intro g hg; unfold resVO; rw [hg]
  cases hg : resGuard ops o.guard with
  | none =>
    have e : resVO F.P draw ops o = ⟨o.dst, .bad, none⟩ := by unfold resVO; rw [hg]
    rw [e] at hs
    cases hs with
    | skip hg' => cases hg'
    | run _ h =>
      cases h with
      | pure h => simp [vpure] at h
  | some g =>
    rw [hgd g hg] at hs
    have hwant : ∀ b' : Bool, (∀ t b, g = some (t, b) → S.ρ t = .lit (.bool b')) → Region.wanted o (yielded ops a.tmps) = gwant b' g := by
      intro b' hb
      unfold Region.wanted
      cases hog : o.guard with
      | none =>
        rw [hog] at hg
        simp [resGuard] at hg
        subst hg; rfl
      | some jb =>
        obtain ⟨j, b⟩ := jb
        rw [hog] at hg
        simp only [resGuard] at hg
        split at hg
        · rename_i d hd'
          cases hg
          have ht := tmps_bool hI (hb d b rfl)
          simp [yielded, hd', ht, gwant]
        · cases hg
    cases hs with
    | skip hg' ht =>
      rename_i t b
      have hg'' : g = some (t, b) := hg'
      subst hg''
      have hw : Region.wanted o (yielded ops a.tmps) = false := by
        rcases ht with ⟨b', ht, hb⟩ | ht
        · rw [hwant b' (fun t1 b1 e => by cases e; exact ht)]
          simpa [gwant] using hb
        · unfold Region.wanted
          cases hog : o.guard with
          | none => rw [hog] at hg; simp [resGuard] at hg
          | some jb =>
            obtain ⟨j, b1⟩ := jb
            rw [hog] at hg
            simp only [resGuard] at hg
            split at hg
            · rename_i d hd'
              cases hg
              rcases tmps_none hI ht with e | e <;> simp [yielded, hd', e]
            · cases hg
      rw [hw]
      simp only [Bool.false_eq_true, if_false]
      exact hK _ _ _ (hI.put o.dst hd (RepE.of_one (.tup [] #[] rfl (fun j x v h => by simp at h))))
    | run hg' h =>
      have hw : Region.wanted o (yielded ops a.tmps) = true := by
        cases g with
        | none => exact hwant true (fun t b e => by cases e)
        | some tb =>
          obtain ⟨t, b⟩ := tb
          have := hwant b (fun t1 b1 e => by cases e; exact hg' _ _ rfl)
          simpa [gwant] using this
      rw [if_pos hw]
      exact .inl (eff_sound hI hd h hK)

theorem inv_freeze (hI : Inv F S a w μ) {i t off n sz : Nat} {cap : Option Nat} {cells : List V} {lv : Bool} (hi : S.ρ i = .buf t off n cap sz) (ht : S.σ t = some ⟨cells, lv⟩) (h0 : F.c0 ≤ t) (hb : off + n * sz ≤ cells.length) :
    Inv F (frozen S i t off sz cells ((cells.drop off).take (n * sz))) a w μ := by
  have hm := hI.mem
  have hj : ∀ t' k', supd S.σ t (some ⟨cells, false⟩) t' = some k' → (t' ≠ t ∧ S.σ t' = some k') ∨ (t' = t ∧ k' = ⟨cells, false⟩) := by
    intro t' k' hk
    simp only [supd] at hk
    split at hk
    · rename_i e; exact .inr ⟨e, by simpa using hk.symm⟩
    · rename_i e; exact .inl ⟨e, hk⟩
  have hlive : ∀ b, Live (supd S.σ t (some ⟨cells, false⟩)) μ b → Live S.σ μ b := by
    rintro b ⟨t', k', hk, hl', e⟩
    rcases hj t' k' hk with ⟨_, g⟩ | ⟨_, g⟩
    · exact ⟨t', k', g, hl', e⟩
    · subst g; cases hl'
  have hsub : ∀ b, F.M S.σ w μ b → F.M (supd S.σ t (some ⟨cells, false⟩)) w μ b := by
    rintro b (hb | ⟨h1, h2, h3⟩)
    · exact .inl hb
    · exact .inr ⟨h1, h2, fun g => h3 (hlive b g)⟩
  have hmem : Mem F (supd S.σ t (some ⟨cells, false⟩)) S.c w μ := by
    refine ⟨hm.good, hm.moved, hm.c0, hm.mu0, hm.tok, hm.inj, fun t' k' hk => ?_, fun t' ht' => ?_, fun t' k' hk => ?_⟩
    · rcases hj t' k' hk with ⟨_, g⟩ | ⟨g, g'⟩
      · exact hm.dom t' k' g
      · subst g; exact .inl ⟨h0, (hm.lt ht).1⟩
    · obtain ⟨k', hk⟩ := hm.lent t' ht'
      simp only [supd]
      split
      · exact ⟨_, rfl⟩
      · exact ⟨k', hk⟩
    · have : ∃ k'', S.σ t' = some k'' ∧ k''.cells = k'.cells := by
        rcases hj t' k' hk with ⟨_, g⟩ | ⟨g, g'⟩
        · exact ⟨k', g, rfl⟩
        · subst g; subst g'; exact ⟨_, ht, rfl⟩
      obtain ⟨k'', hk'', e⟩ := this
      obtain ⟨arr, T, g1, g2, g3, g4⟩ := hm.blk t' k'' hk''
      rw [e] at g2 g4
      exact ⟨arr, T, g1, g2, g3, fun i x v hx hv => (g4 i x v hx hv).mono (fun _ _ => rfl) hsub (fun _ _ _ => rfl) (Nat.le_refl _)⟩
  have hI' : Inv F ⟨S.ρ, supd S.σ t (some ⟨cells, false⟩), S.c⟩ a w μ := hI.later hmem (Grows.refl _) (fun _ _ => rfl) hsub (fun _ _ => rfl) (Nat.le_refl _)
  refine ⟨hI'.size, hI'.defers, hI'.mem, fun j => ?_⟩
  simp only [frozen, upd]
  split
  · rename_i e; subst e
    have hr := hI.env j
    rw [hi] at hr
    obtain ⟨cp, of', eu, hof, hcp, htc, hs0, _, arrb, Tb, hb1, hb2⟩ := hr
    rw [eu]
    obtain ⟨arr, T, g1, g2, g3, g4⟩ := blk_cells hm ht
    have harr : arrb = arr := by rw [hb1] at g1; cases g1; rfl
    subst harr
    have g2 : cells.length ≤ arrb.size := g2
    obtain ⟨_, _, _, _, g5, _⟩ := hm.blk t _ ht
    have g5 : ∀ (i : Nat) (v : Value), arrb[i]? = some v → v.oneCell' = true := by
      obtain ⟨arr2, T2, q1, _, q3, _⟩ := hm.blk t _ ht
      rw [hb1] at q1; cases q1; exact q3
    have hMt : F.M (supd S.σ t (some ⟨cells, false⟩)) w μ (μ t) := hmem.isM (t := t) (k := ⟨cells, false⟩) (supd_same _ _ _) rfl
    refine RepE.of_one (.sl (Tok.from off t) sz n cp ⟨μ t, of', none⟩ _ (fun q => arrb.getD (of' + q) undef) ?_ ?_ hcp hs0 (fun _ => hMt) (fun q hq => ?_) (fun q hq => ?_) fun q x hx => ?_)
    · unfold Tok.from
      split
      · rename_i e0
        exact fun hr => ⟨⟨htc, rfl⟩, by rw [← e0]; exact hof (Nat.pos_of_mul_pos_right hr), rfl⟩
      · exact fun _ => ⟨htc, rfl⟩
    · rw [List.length_take, List.length_drop]; omega
    · rw [add_mk]
      have : of' + q < arrb.size := by omega
      simp only [World.cell?, hb1]
      simp [Array.getD, this]
    · have : of' + q < arrb.size := by omega
      exact g5 (of' + q) _ (by simp [Array.getD, this])
    · rw [List.getElem?_take] at hx
      split at hx
      · rename_i hq
        rw [List.getElem?_drop] at hx
        have hn0 : 0 < n := by
          rcases Nat.eq_zero_or_pos n with h | h
          · subst h; simp at hq
          · exact h
        rw [hof (by omega)]
        exact (g4 _ x hx).mono (fun _ _ => rfl) hsub (fun _ _ _ => rfl) (Nat.le_refl _)
      · cases hx
  · exact hI'.env j

/-! ### a row that was told is taken back as a buffer -/
def Tok.apart (t : Nat) : Tok → Bool
  | .nil => true
  | .unk => false
  | .id u => !(Nat.beq u t)
  | .sub u => !(Nat.beq u t)
/-- nothing in it lies in the block t ('d': so many levels are looked at) -/
def V.still (t : Nat) : Nat → V → Bool
  | _, .any => true
  | _, .lit _ => true
  | _, .buf .. => true
  | _, .ptr .. => true
  | _, .eptr .. => false
  | 0, _ => false
  | d + 1, .sl tk _ l => tk.apart t && l.all (V.still t d)
  | d + 1, .agg l => l.all (V.still t d)
  | d + 1, .tup l => l.all (V.still t d)
def V.thaw (t : Nat) (x : V) : V := if x.still t 4 = true then x else .any
def thawed (S : VS) (i t n sz : Nat) (l : List V) : VS :=
  ⟨upd (fun j => (S.ρ j).thaw t) i (.buf t 0 n none sz), fun u => if u = t then some ⟨l, true⟩ else (S.σ u).map fun b => ⟨b.cells.map (V.thaw t), b.live⟩, S.c⟩

theorem Tok.apart_ne {t u : Nat} (h : (!(Nat.beq u t)) = true) : u ≠ t := by
  intro e; subst e
  have : Nat.beq u u = true := Nat.beq_refl u
  rw [this] at h; cases h

theorem still_rep {M M' : Nat → Prop} {c t : Nat} (hM : ∀ b, M b → b ≠ μ t → M' b) (hinj : ∀ u, u < c → u ≠ t → μ u ≠ μ t) :
    ∀ (d : Nat) (x : V) (u : Value), x.still t d = true → Rep w M μ c x u → Rep w M' μ c x u := by
  intro d
  induction d with
  | zero =>
    intro x u hs h
    cases h with
    | any => exact .any _
    | lit => exact .lit _
    | nil | sl | agg | tup => simp [V.still] at hs
  | succ d ih =>
    intro x u hs h
    cases h with
    | any => exact .any _
    | lit => exact .lit _
    | nil tk sz => exact .nil tk sz
    | sl tk sz n cap a l vs ht hn hc hsz hMb hcap h1 hl =>
      simp only [V.still, Bool.and_eq_true, List.all_eq_true] at hs
      refine .sl tk sz n cap a l vs ht hn hc hsz (fun hr => hM _ (hMb hr) ?_) hcap h1 fun j x hx => ih _ _ (hs.2 x (List.mem_of_getElem? hx)) (hl j x hx)
      cases tk with
      | nil => exact ht.elim
      | unk => cases hs.1
      | id q => rw [← (ht hr).1.2]; exact hinj q (ht hr).1.1 (Tok.apart_ne hs.1)
      | sub q => rw [← (ht hr).2]; exact hinj q (ht hr).1 (Tok.apart_ne hs.1)
    | agg l cs hn h1 hl =>
      simp only [V.still, List.all_eq_true] at hs
      exact .agg l cs hn h1 fun j x v hx hv => ih _ _ (hs x (List.mem_of_getElem? hx)) (hl j x v hx hv)
    | tup l cs hn hl =>
      simp only [V.still, List.all_eq_true] at hs
      exact .tup l cs hn fun j x v hx hv => ih _ _ (hs x (List.mem_of_getElem? hx)) (hl j x v hx hv)
theorem thaw_rep {M M' : Nat → Prop} {c t : Nat} (hM : ∀ b, M b → b ≠ μ t → M' b) (hinj : ∀ u, u < c → u ≠ t → μ u ≠ μ t) {x : V} {u : Value} (h : Rep w M μ c x u) : Rep w M' μ c (x.thaw t) u := by
  unfold V.thaw
  split
  · rename_i hs; exact still_rep hM hinj 4 x u hs h
  · exact .any u
theorem thaw_repE {M M' : Nat → Prop} {c t : Nat} (hM : ∀ b, M b → b ≠ μ t → M' b) (hinj : ∀ u, u < c → u ≠ t → μ u ≠ μ t) {x : V} {u : Value} (h : RepE w M μ c x u) : RepE w M' μ c (x.thaw t) u := by
  cases x with
  | buf | ptr => exact h
  | eptr => exact RepE.of_one (.any u)
  | any => exact RepE.of_one (.any u)
  | lit q => exact RepE.of_one (thaw_rep hM hinj (h.one rfl))
  | sl => exact RepE.of_one (thaw_rep hM hinj (h.one rfl))
  | agg => exact RepE.of_one (thaw_rep hM hinj (h.one rfl))
  | tup => exact RepE.of_one (thaw_rep hM hinj (h.one rfl))

theorem inv_thaw (hI : Inv F S a w μ) {i t n sz : Nat} {l : List V} (hi : S.ρ i = .sl (.id t) sz l) (h0 : F.c0 ≤ t) (hn : l.length = n * sz) (hl : l ≠ []) (hs : ∀ x ∈ l, x.still t 4 = true) :
    Inv F (thawed S i t n sz l) a w μ := by
  have hm := hI.mem
  have hr := hI.env i
  rw [hi] at hr
  have hr := hr.one rfl
  generalize hu : a.tmps.getD i undef = u at hr
  cases hr with
  | nil => exact absurd rfl hl
  | sl _ _ n' cap ad _ vs ht hn' hc hsz hMb hcap h1 hcl =>
    have hln : 0 < l.length := List.length_pos_iff.2 hl
    have hnn : n' = n := by
      have : n' * sz = n * sz := by omega
      exact Nat.eq_of_mul_eq_mul_right hsz this
    subst hnn
    have hcs := Nat.mul_le_mul_right sz hc
    have hroom : 0 < cap * sz := by omega
    obtain ⟨⟨htc, hta⟩, hoff, hspot⟩ := ht hroom
    have hMt : F.M S.σ w μ (μ t) := by rw [hta]; exact hMb hroom
    obtain ⟨q1, q2, arr, T, q3, q4⟩ := hm.tok t h0 htc
    have had : ad = ⟨μ t, 0, none⟩ := by cases ad; simp only at hta hoff hspot; subst hta hoff hspot; rfl
    subst had
    have hinj : ∀ u, u < S.c → u ≠ t → μ u ≠ μ t := by
      intro u hu hne e
      by_cases g : F.c0 ≤ u
      · exact hne (hm.inj u t g hu h0 htc e)
      · have g1 := hm.good.low u (by omega)
        have g2 := hm.mu0 u (by omega)
        omega
    have hlive : ∀ b, Live (thawed S i t n' sz l).σ μ b → b ≠ μ t → Live S.σ μ b := by
      rintro b ⟨t', k', hk, hlv, e⟩ hb
      simp only [thawed] at hk
      split at hk
      · rename_i e'; subst e'; exact absurd e.symm hb
      · obtain ⟨k, hk1, rfl⟩ := Option.map_eq_some_iff.1 hk
        exact ⟨t', k, hk1, hlv, e⟩
    have hsub : ∀ b, F.M S.σ w μ b → b ≠ μ t → F.M (thawed S i t n' sz l).σ w μ b := by
      rintro b (hb | ⟨g1, g2, g3⟩) hne
      · exact .inl hb
      · exact .inr ⟨g1, g2, fun g => g3 (hlive b g hne)⟩
    have hdead : ∀ k, S.σ t = some k → k.live = false := by
      intro k hk
      cases hlv : k.live with
      | false => rfl
      | true => exact absurd hMt (hm.notM hk hlv)
    have hcell : ∀ j, j < cap * sz → arr[j]? = some (vs j) := by
      intro j hj
      have := hcap j hj
      rw [add_mk] at this
      simp only [World.cell?, q3] at this
      simpa using this
    have hlen : l.length ≤ arr.size := by
      have hj := hcell (l.length - 1) (by omega)
      have := (Array.getElem?_eq_some_iff.1 hj).1
      omega
    have hmem : Mem F (thawed S i t n' sz l).σ S.c w μ := by
      refine ⟨hm.good, hm.moved, hm.c0, hm.mu0, hm.tok, hm.inj, fun t' k' hk => ?_, fun t' ht' => ?_, fun t' k' hk => ?_⟩
      · simp only [thawed] at hk
        split at hk
        · rename_i e; subst e; exact .inl ⟨h0, htc⟩
        · obtain ⟨k, hk1, rfl⟩ := Option.map_eq_some_iff.1 hk
          exact hm.dom t' k hk1
      · obtain ⟨k, hk⟩ := hm.lent t' ht'
        simp only [thawed]
        split
        · exact ⟨_, rfl⟩
        · exact ⟨_, by rw [hk]; rfl⟩
      · simp only [thawed] at hk
        split at hk
        · rename_i e; subst e
          cases hk
          refine ⟨arr, T, q3, hlen, q4, fun j x v hx hv => ?_⟩
          have hj : j < l.length := (List.getElem?_eq_some_iff.1 hx).1
          have := hcell j (by omega)
          rw [this] at hv
          cases hv
          exact still_rep hsub hinj 4 x _ (hs x (List.mem_of_getElem? hx)) (hcl j x hx)
        · obtain ⟨k, hk1, rfl⟩ := Option.map_eq_some_iff.1 hk
          obtain ⟨arr', T', g1, g2, g3, g4⟩ := hm.blk t' k hk1
          refine ⟨arr', T', g1, by simpa using g2, g3, fun j x v hx hv => ?_⟩
          rw [List.getElem?_map] at hx
          obtain ⟨y, hy, rfl⟩ := Option.map_eq_some_iff.1 hx
          exact thaw_rep hsub hinj (g4 j y v hy hv)
    refine ⟨hI.size, hI.defers, hmem, fun j => ?_⟩
    simp only [thawed, upd]
    split
    · rename_i e; subst e
      rw [hu]
      refine ⟨cap, 0, rfl, fun _ => rfl, hc, htc, hsz, trivial, arr, T, q3, ?_⟩
      have hj := hcell (cap * sz - 1) (by omega)
      have := (Array.getElem?_eq_some_iff.1 hj).1
      omega
    · exact thaw_repE hsub hinj (hI.env j)

theorem steps_wp' {dr draw : Bool} (hds : ∀ (i : Nat) (o : Oper) d, ops[i]? = some o → o.dst = some d → d < F.nt) {K : VS → Prop} (hQ : ∀ S' a' w' μ', K S' → Inv F S' a' w' μ' → Q .normal a' w') {vl : List VO} {S S' : VS} (hs : VSteps F.P dr F.c0 vl S S') :
    ∀ (l : List Oper) (k : Nat) (a : Act) (w : World) (μ : Nat → Nat), vl = l.map (resVO F.P draw ops) → (∀ j, l[j]? = ops[k + j]?) → Inv F S a w μ → K S' → wpOps F.P ops Q (List.range' k l.length) a w := by
  induction hs with
  | nil S =>
    intro l k a w μ e hl hI hk
    cases l with
    | nil => exact hQ _ _ _ _ hk hI
    | cons o l => cases e
  | cons h t ih =>
    intro l k a w μ e hl hI hk
    cases l with
    | nil => cases e
    | cons o l =>
      simp only [List.map_cons, List.cons.injEq] at e
      obtain ⟨e1, e2⟩ := e
      subst e1
      have h0 : ops[k]? = some o := by have := hl 0; simpa using this.symm
      simp only [List.length_cons, List.range'_succ]
      rw [wpOps_cons]
      refine step_wp hI h0 (fun d hd => hds k o d h0 hd) h fun a' w' μ' hI' => ?_
      exact ih l (k + 1) a' w' μ' e2 (fun j => by have := hl (j + 1); simpa [Nat.add_assoc, Nat.add_comm 1 j] using this) hI' hk
  | frz hdr hi ht h0 hb h ih =>
    intro l k a w μ e hl hI hk
    exact ih l k a w μ e hl (inv_freeze hI hi ht h0 hb) hk
theorem steps_wp {dr draw : Bool} (hds : ∀ (i : Nat) (o : Oper) d, ops[i]? = some o → o.dst = some d → d < F.nt) {K : VS → Prop} (hQ : ∀ S' a' w' μ', K S' → Inv F S' a' w' μ' → Q .normal a' w') :
    ∀ (l : List Oper) (k : Nat) (S : VS) (a : Act) (w : World) (μ : Nat → Nat), (∀ j, l[j]? = ops[k + j]?) → Inv F S a w μ → (∃ S', VSteps F.P dr F.c0 (l.map (resVO F.P draw ops)) S S' ∧ K S') → wpOps F.P ops Q (List.range' k l.length) a w :=
  fun l k S a w μ hl hI ⟨S', hs, hk⟩ => steps_wp' hds hQ hs l k a w μ rfl hl hI hk

/-! ### operations that may change places -/
theorem ev_agree {ρ ρ' : Nat → V} {x : X} (h : ∀ t ∈ x.reads, ρ t = ρ' t) : x.ev ρ = x.ev ρ' := by
  cases x with
  | t i => exact h i (by simp [X.reads])
  | c v => rfl
theorem evo_agree {ρ ρ' : Nat → V} {x : Option X} (h : ∀ t ∈ oreads x, ρ t = ρ' t) : x.map (X.ev ρ) = x.map (X.ev ρ') := by
  cases x with
  | none => rfl
  | some x => simp only [Option.map_some]; rw [ev_agree h]
theorem evl_agree {ρ ρ' : Nat → V} {l : List X} (h : ∀ t ∈ l.flatMap X.reads, ρ t = ρ' t) : l.map (X.ev ρ) = l.map (X.ev ρ') := by
  refine List.map_congr_left fun x hx => ev_agree fun t ht => h t ?_
  exact List.mem_flatMap.2 ⟨x, hx, ht⟩
theorem evp_agree {ρ ρ' : Nat → V} {l : List (Nat × Nat × X)} (h : ∀ t ∈ l.flatMap (fun p => p.2.2.reads), ρ t = ρ' t) : partsOf (X.ev ρ) l = partsOf (X.ev ρ') l := by
  unfold partsOf
  refine List.map_congr_left fun x hx => ?_
  rw [ev_agree fun t ht => h t (List.mem_flatMap.2 ⟨x, hx, ht⟩)]

theorem pure_agree {ρ ρ' : Nat → V} {o : VOp} (h : ∀ t ∈ o.reads, ρ t = ρ' t) : vpure (X.ev ρ) o = vpure (X.ev ρ') o := by
  cases o with
  | mov x => simp only [vpure]; rw [ev_agree h]
  | pick x y z => simp only [vpure]; rw [ev_agree (x := x) (fun t ht => h t (by simp [VOp.reads, ht])), ev_agree (x := y) (fun t ht => h t (by simp [VOp.reads, ht])), ev_agree (x := z) (fun t ht => h t (by simp [VOp.reads, ht]))]
  | bin _ _ x y => simp only [vpure]; rw [ev_agree (x := x) (fun t ht => h t (by simp [VOp.reads, ht])), ev_agree (x := y) (fun t ht => h t (by simp [VOp.reads, ht]))]
  | un _ x => simp only [vpure]; rw [ev_agree h]
  | conv _ x => simp only [vpure]; rw [ev_agree h]
  | len x => simp only [vpure]; rw [ev_agree h]
  | ixa _ x y => simp only [vpure]; rw [ev_agree (x := x) (fun t ht => h t (by simp [VOp.reads, ht])), ev_agree (x := y) (fun t ht => h t (by simp [VOp.reads, ht]))]
  | axa _ _ x y => simp only [vpure]; rw [ev_agree (x := x) (fun t ht => h t (by simp [VOp.reads, ht])), ev_agree (x := y) (fun t ht => h t (by simp [VOp.reads, ht]))]
  | six x y => simp only [vpure]; rw [ev_agree (x := x) (fun t ht => h t (by simp [VOp.reads, ht])), ev_agree (x := y) (fun t ht => h t (by simp [VOp.reads, ht]))]
  | aix _ _ _ x y => simp only [vpure]; rw [ev_agree (x := x) (fun t ht => h t (by simp [VOp.reads, ht])), ev_agree (x := y) (fun t ht => h t (by simp [VOp.reads, ht]))]
  | slc _ x p q r => simp only [vpure]; rw [ev_agree (x := x) (fun t ht => h t (by simp [VOp.reads, ht])), evo_agree (x := p) (fun t ht => h t (by simp [VOp.reads, ht])), evo_agree (x := q) (fun t ht => h t (by simp [VOp.reads, ht])), evo_agree (x := r) (fun t ht => h t (by simp [VOp.reads, ht]))]
  | fa _ x => simp only [vpure]; rw [ev_agree h]
  | fld _ _ x => simp only [vpure]; rw [ev_agree h]
  | build z ps => simp only [vpure]; have := evp_agree (l := ps) h; unfold partsOf at this; rw [this]
  | ext x _ => simp only [vpure]; rw [ev_agree h]
  | ext64 _ x y z => simp only [vpure]; rw [ev_agree (x := x) (fun t ht => h t (by simp [VOp.reads, ht])), ev_agree (x := y) (fun t ht => h t (by simp [VOp.reads, ht])), ev_agree (x := z) (fun t ht => h t (by simp [VOp.reads, ht]))]
  | mm _ x y => simp only [vpure]; rw [ev_agree (x := x) (fun t ht => h t (by simp [VOp.reads, ht])), ev_agree (x := y) (fun t ht => h t (by simp [VOp.reads, ht]))]
  | mkf _ => rfl
  | nilc x => simp only [vpure]; rw [ev_agree h]
  | _ => rfl

/-- operands that agree: the same outcome (an operation that is no append) -/
theorem eff_agree {P : Program} {dr : Bool} {c0 : Nat} {ρ ρ' : Nat → V} {σ σ' : Nat → Option Blk} {c c' : Nat} {o : VOp} {v : V} {kt : Option Nat} (h : ∀ t ∈ o.reads, ρ t = ρ' t) (he : VEff P dr c0 (X.ev ρ) σ c o v σ' c' kt) : VEff P dr c0 (X.ev ρ') σ c o v σ' c' kt := by
  cases he with
  | pure hp => exact .pure (by rw [← pure_agree h]; exact hp)
  | load hp => exact .load (by rw [← ev_agree h]; exact hp)
  | @store n x y _ hp => exact .store (by rw [← ev_agree (x := x) (fun t ht => h t (by simp [VOp.reads, ht])), ← ev_agree (x := y) (fun t ht => h t (by simp [VOp.reads, ht]))]; exact hp)
  | @mk _ _ l q _ _ _ _ hl hq h1 h2 h3 => exact .mk (by rw [← ev_agree (x := l) (fun t ht => h t (by simp [VOp.reads, ht]))]; exact hl) (by rw [← ev_agree (x := q) (fun t ht => h t (by simp [VOp.reads, ht]))]; exact hq) h1 h2 h3
  | box hp => exact .box (by rw [← ev_agree h]; exact hp)
  | alloc => exact .alloc
  | bsl hp => exact .bsl (by rw [← evp_agree h]; exact hp)
  | bsl0 hp => exact .bsl0 (by rw [← evp_agree h]; exact hp)
  | @appNil _ _ _ x y _ _ _ hx hy hk h0 h2 h3 => exact .appNil (by rw [← ev_agree (x := x) (fun t ht => h t (by simp [VOp.reads, ht]))]; exact hx) (by rw [← ev_agree (x := y) (fun t ht => h t (by simp [VOp.reads, ht]))]; exact hy) hk h0 h2 h3
  | @appNil0 _ _ _ x y _ hx hy => exact .appNil0 (by rw [← ev_agree (x := x) (fun t ht => h t (by simp [VOp.reads, ht]))]; exact hx) (by rw [← ev_agree (x := y) (fun t ht => h t (by simp [VOp.reads, ht]))]; exact hy)
  | @appFit _ _ _ x y _ _ _ _ _ _ hx ht hy hk h1 h2 => exact .appFit (by rw [← ev_agree (x := x) (fun t ht => h t (by simp [VOp.reads, ht]))]; exact hx) ht (by rw [← ev_agree (x := y) (fun t ht => h t (by simp [VOp.reads, ht]))]; exact hy) hk h1 h2
  | @appMove _ _ _ x y _ _ _ _ _ _ hx ht ht0 hy hk h1 h2 h3 => exact .appMove (by rw [← ev_agree (x := x) (fun t ht => h t (by simp [VOp.reads, ht]))]; exact hx) ht ht0 (by rw [← ev_agree (x := y) (fun t ht => h t (by simp [VOp.reads, ht]))]; exact hy) hk h1 h2 h3
  | @cpy _ x y _ _ _ _ _ _ _ hx ht hy hm h1 => exact .cpy (by rw [← ev_agree (x := x) (fun t ht => h t (by simp [VOp.reads, ht]))]; exact hx) ht (by rw [← ev_agree (x := y) (fun t ht => h t (by simp [VOp.reads, ht]))]; exact hy) hm h1
  | call hdr hl hc => exact .call hdr hl (by rw [← evl_agree h]; exact hc)
  | callp hc => exact .callp (by rw [← evl_agree h]; exact hc)
  | @callv x _ xs _ _ hx hb hc => exact .callv (by rw [← ev_agree (x := x) (fun t ht => h t (by simp [VOp.reads, ht]))]; exact hx) hb (by rw [← evl_agree (fun t ht => h t (by simp only [VOp.reads]; exact List.mem_append_right _ ht))]; exact hc)

/-- an operation that looks at its operands alone -/
def Free (P : Program) (c0 : Nat) (o : VOp) : Prop :=
  ∀ (e : X → V) (σ σ' : Nat → Option Blk) (c c' : Nat) (v : V) (kt : Option Nat), VEff P true c0 e σ c o v σ' c' kt → σ' = σ ∧ c' = c ∧ kt = none ∧ ∀ (σ2 : Nat → Option Blk) (c2 : Nat), VEff P true c0 e σ2 c2 o v σ2 c2 none

theorem free_pure {P : Program} {c0 : Nat} {o : VOp} (h : o.isPure = true) : Free P c0 o := by
  intro e σ σ' c c' v kt he
  cases he <;> first
    | (cases h; done)
    | exact ⟨rfl, rfl, rfl, fun σ2 c2 => .pure ‹_›⟩
theorem free_bsl {P : Program} {c0 sz len : Nat} {z : List Value} {ps : List (Nat × Nat × X)} : Free P c0 (.bsl false sz len z ps) := by
  intro e σ σ' c c' v kt he
  cases he with
  | pure h => simp [vpure] at h
  | bsl0 h => exact ⟨rfl, rfl, rfl, fun σ2 c2 => .bsl0 h⟩

theorem updo_comm (ρ : Nat → V) {d e : Option Nat} (v u : V) (h : ∀ i j, d = some i → e = some j → i ≠ j) : updo (updo ρ d v) e u = updo (updo ρ e u) d v := by
  cases d with
  | none => rfl
  | some i =>
    cases e with
    | none => rfl
    | some j =>
      have := h i j rfl rfl
      funext k
      simp only [updo, upd]
      by_cases h1 : k = j <;> by_cases h2 : k = i
      · omega
      · rw [if_pos h1, if_neg h2, if_pos h1]
      · rw [if_neg h1, if_pos h2, if_pos h2]
      · rw [if_neg h1, if_neg h2, if_neg h2, if_neg h1]

theorem apart_facts {x y : VO} (h : x.apart y = true) : (∀ d, x.dst = some d → d ∉ y.reads) ∧ (∀ d, y.dst = some d → d ∉ x.reads) ∧ (∀ i j, x.dst = some i → y.dst = some j → i ≠ j) := by
  unfold VO.apart at h
  simp only [Bool.and_eq_true] at h
  refine ⟨fun d hd => ?_, fun d hd => ?_, fun i j hi hj => ?_⟩
  · have := h.1; rw [hd] at this; simp at this; exact this.1
  · have := h.2; rw [hd] at this; simpa using this
  · have := h.1; rw [hi, hj] at this; simp at this; exact this.2

theorem updo_agree {ρ : Nat → V} {d : Option Nat} {v : V} {o : VO} (h : ∀ i, d = some i → i ∉ o.reads) : ∀ t ∈ o.reads, updo ρ d v t = ρ t := by
  intro t ht
  cases d with
  | none => rfl
  | some i => simp only [updo, upd]; rw [if_neg]; intro e; subst e; exact h t rfl ht

/-- the shape of a step that is no append -/
def Shape (P : Program) (c0 : Nat) (o : VO) (ρ : Nat → V) (σ : Nat → Option Blk) (c : Nat) (v : V) (σ' : Nat → Option Blk) (c' : Nat) : Prop :=
  (∃ t b, o.guard = some (t, b) ∧ skips (ρ t) b ∧ v = .tup [] ∧ σ' = σ ∧ c' = c) ∨ ((∀ t b, o.guard = some (t, b) → ρ t = .lit (.bool b)) ∧ VEff P true c0 (X.ev ρ) σ c o.op v σ' c' none)

theorem step_shape {P : Program} {c0 : Nat} {o : VO} (ha : o.op.hasApp = false) {S S' : VS} : VStep P true c0 o S S' ↔ ∃ v σ' c', Shape P c0 o S.ρ S.σ S.c v σ' c' ∧ S' = ⟨updo S.ρ o.dst v, σ', c'⟩ := by
  constructor
  · intro h
    cases h with
    | skip hg ht => exact ⟨_, _, _, .inl ⟨_, _, hg, ht, rfl, rfl, rfl⟩, rfl⟩
    | run hg h =>
      rename_i v σ' c' kt
      have : kt = none := by
        generalize o.op = vo at h ha
        cases h <;> first | rfl | (simp only [VOp.hasApp] at ha; cases ha)
      subst this
      exact ⟨v, σ', c', .inr ⟨hg, h⟩, rfl⟩
  · rintro ⟨v, σ', c', h | h, rfl⟩
    · obtain ⟨t, b, hg, ht, rfl, rfl, rfl⟩ := h
      exact .skip hg ht
    · exact .run h.1 h.2

theorem shape_agree {P : Program} {c0 : Nat} {o : VO} {ρ ρ' : Nat → V} {σ σ' : Nat → Option Blk} {c c' : Nat} {v : V} (h : ∀ t ∈ o.reads, ρ t = ρ' t) (hs : Shape P c0 o ρ σ c v σ' c') : Shape P c0 o ρ' σ c v σ' c' := by
  have hgr : ∀ t b, o.guard = some (t, b) → ρ t = ρ' t := fun t b hg => h t (by unfold VO.reads; rw [hg]; simp)
  have hor : ∀ t ∈ o.op.reads, ρ t = ρ' t := fun t ht => h t (by unfold VO.reads; exact List.mem_append_right _ ht)
  rcases hs with ⟨t, b, hg, ht, rfl, rfl, rfl⟩ | ⟨hg, he⟩
  · exact .inl ⟨t, b, hg, by rw [← hgr t b hg]; exact ht, rfl, rfl, rfl⟩
  · exact .inr ⟨fun t b hgt => by rw [← hgr t b hgt]; exact hg t b hgt, eff_agree hor he⟩

theorem shape_free {P : Program} {c0 : Nat} {o : VO} (hf : Free P c0 o.op) {ρ : Nat → V} {σ σ' : Nat → Option Blk} {c c' : Nat} {v : V} (hs : Shape P c0 o ρ σ c v σ' c') : σ' = σ ∧ c' = c ∧ ∀ σ2 c2, Shape P c0 o ρ σ2 c2 v σ2 c2 := by
  rcases hs with ⟨t, b, hg, ht, rfl, rfl, rfl⟩ | ⟨hg, he⟩
  · exact ⟨rfl, rfl, fun σ2 c2 => .inl ⟨t, b, hg, ht, rfl, rfl, rfl⟩⟩
  · obtain ⟨h1, h2, _, h3⟩ := hf _ _ _ _ _ _ _ he
    exact ⟨h1, h2, fun σ2 c2 => .inr ⟨hg, h3 σ2 c2⟩⟩

/-- a load: the buffers stay; the count says nothing -/
theorem shape_load {P : Program} {c0 : Nat} {o : VO} {ag : Option Nat} {x : X} (ho : o.op = .load ag x) {ρ : Nat → V} {σ σ' : Nat → Option Blk} {c c' : Nat} {v : V} (hs : Shape P c0 o ρ σ c v σ' c') : σ' = σ ∧ c' = c ∧ ∀ c2, Shape P c0 o ρ σ c2 v σ c2 := by
  rcases hs with ⟨t, b, hg, ht, rfl, rfl, rfl⟩ | ⟨hg, he⟩
  · exact ⟨rfl, rfl, fun c2 => .inl ⟨t, b, hg, ht, rfl, rfl, rfl⟩⟩
  · rw [ho] at he
    cases he with
    | pure h => simp [vpure] at h
    | load h => exact ⟨rfl, rfl, fun c2 => .inr ⟨hg, by rw [ho]; exact .load h⟩⟩
theorem shape_call {P : Program} {c0 : Nat} {o : VO} {f : FuncId} {xs : List X} (ho : o.op = .call f xs) {ρ : Nat → V} {σ σ' : Nat → Option Blk} {c c' : Nat} {v : V} (hs : Shape P c0 o ρ σ c v σ' c') : σ' = σ := by
  rcases hs with ⟨t, b, hg, ht, rfl, rfl, rfl⟩ | ⟨hg, he⟩
  · rfl
  · rw [ho] at he
    cases he with
    | pure h => simp [vpure] at h
    | call hdr => cases hdr
    | callp h => rfl

theorem swap_step {P : Program} {c0 : Nat} {x y : VO} (h : x.swaps y = true) {S S1 S2 : VS} (hx : VStep P true c0 x S S1) (hy : VStep P true c0 y S1 S2) : ∃ S1', VStep P true c0 y S S1' ∧ VStep P true c0 x S1' S2 := by
  unfold VO.swaps at h
  simp only [Bool.and_eq_true, Bool.not_eq_true'] at h
  obtain ⟨⟨⟨hap, hxa⟩, hya⟩, hsw⟩ := h
  obtain ⟨a1, a2, a3⟩ := apart_facts hap
  obtain ⟨vx, σ1, c1, hsx, rfl⟩ := (step_shape hxa).1 hx
  obtain ⟨vy, σ2, c2, hsy, rfl⟩ := (step_shape hya).1 hy
  have hsy' : Shape P c0 y S.ρ σ1 c1 vy σ2 c2 := shape_agree (updo_agree a1) hsy
  have hsx' : ∀ {σa σb ca cb}, Shape P c0 x S.ρ σa ca vx σb cb → Shape P c0 x (updo S.ρ y.dst vy) σa ca vx σb cb := fun hq => shape_agree (fun t ht => (updo_agree (d := y.dst) (v := vy) a2 t ht).symm) hq
  -- from two shapes at the start to the two steps the other way round
  have fin : ∀ {σy cy}, Shape P c0 y S.ρ S.σ S.c vy σy cy → Shape P c0 x S.ρ σy cy vx σ2 c2 → ∃ S1', VStep P true c0 y S S1' ∧ VStep P true c0 x S1' ⟨updo (updo S.ρ x.dst vx) y.dst vy, σ2, c2⟩ := by
    intro σy cy h1 h2
    refine ⟨⟨updo S.ρ y.dst vy, σy, cy⟩, (step_shape hya).2 ⟨vy, σy, cy, h1, rfl⟩, (step_shape hxa).2 ⟨vx, σ2, c2, hsx' h2, ?_⟩⟩
    rw [updo_comm _ _ _ a3]
  have freeX : Free P c0 x.op → ∃ S1', VStep P true c0 y S S1' ∧ VStep P true c0 x S1' ⟨updo (updo S.ρ x.dst vx) y.dst vy, σ2, c2⟩ := by
    intro hf
    obtain ⟨rfl, rfl, h3⟩ := shape_free hf hsx
    exact fin hsy' (h3 σ2 c2)
  have freeY : Free P c0 y.op → ∃ S1', VStep P true c0 y S S1' ∧ VStep P true c0 x S1' ⟨updo (updo S.ρ x.dst vx) y.dst vy, σ2, c2⟩ := by
    intro hf
    obtain ⟨rfl, rfl, h3⟩ := shape_free hf hsy'
    exact fin (h3 S.σ S.c) hsx
  unfold VOp.swaps at hsw
  simp only [Bool.or_eq_true, Bool.and_eq_true] at hsw
  have bsl : ∀ {o : VOp}, o.isBsl0 = true → Free P c0 o := by
    intro o ho
    cases o with
    | bsl tok sz len z ps => cases tok; · exact free_bsl
                             · cases ho
    | _ => cases ho
  have isl : ∀ {o : VOp}, o.isLoad = true → ∃ ag x, o = .load ag x := by
    intro o ho; cases o with
    | load ag x => exact ⟨ag, x, rfl⟩
    | _ => cases ho
  have isc : ∀ {o : VOp}, o.isCall = true → ∃ f xs, o = .call f xs := by
    intro o ho; cases o with
    | call f xs => exact ⟨f, xs, rfl⟩
    | _ => cases ho
  rcases hsw with (((((p | p) | p) | p) | ⟨p, q⟩) | ⟨p, q⟩) | ⟨p, q⟩
  · exact freeX (free_pure p)
  · exact freeY (free_pure p)
  · exact freeX (bsl p)
  · exact freeY (bsl p)
  · obtain ⟨ag, x0, hx0⟩ := isl p
    obtain ⟨ag', y0, hy0⟩ := isl q
    obtain ⟨rfl, rfl, h3⟩ := shape_load hx0 hsx
    obtain ⟨rfl, rfl, h4⟩ := shape_load hy0 hsy'
    exact fin (h4 S.c) (h3 S.c)
  · obtain ⟨ag, x0, hx0⟩ := isl p
    obtain ⟨f, ys, hy0⟩ := isc q
    obtain ⟨rfl, rfl, h3⟩ := shape_load hx0 hsx
    obtain rfl := shape_call hy0 hsy'
    exact fin hsy' (h3 c2)
  · obtain ⟨f, ys, hx0⟩ := isc p
    obtain ⟨ag', y0, hy0⟩ := isl q
    obtain rfl := shape_call hx0 hsx
    obtain ⟨rfl, rfl, h4⟩ := shape_load hy0 hsy'
    exact fin (h4 S.c) hsx
end Go.VM
