import Derived.Calls
import Derived.Orders
import Derived.Laws.Small
import Derived.Laws.Tables
import Derived.Below
import Derived.Laws.Slices
import Derived.Laws.MakeOwn
import Derived.Laws.Entries
import Derived.Laws.Sem
import Derived.Laws.Cells
import Derived.Laws.Append
import Derived.Laws.AppendOwn
import Derived.Laws.Externs
import Derived.Conc.MuLone
import Derived.KernelRfl
set_option linter.unusedVariables false
namespace Go.VM

/-- whose memory a slice lies in: nil; not told; the block with this number of the call's own counting, from its beginning; somewhere in it -/
inductive Tok where
  | nil
  | unk
  | id (t : Nat)
  | sub (t : Nat)

/-- the part from k on -/
def Tok.cut (k : Int) : Tok → Tok
  | .id t => if k = 0 then .id t else .sub t
  | tk => tk
def Tok.from (off t : Nat) : Tok := if off = 0 then .id t else .sub t

/-- abstract values: slices by value ('sl': not written any more), the call's own buffers ('buf') and boxes ('ptr') by number -/
inductive V where
  | any
  | lit (v : Value)
  | sl (t : Tok) (sz : Nat) (l : List V)
  | buf (t off n : Nat) (cap : Option Nat) (sz : Nat)
  | ptr (t off : Nat)
  | eptr (l : List V) (i : Nat)
  | agg (l : List V)
  | tup (l : List V)

instance : Inhabited V := ⟨.any⟩

abbrev V.int (k : IntKind) (n : Int) : V := .lit (.int k n)
abbrev V.bool (b : Bool) : V := .lit (.bool b)

inductive X where
  | t (i : Nat)
  | c (v : V)

structure Blk where
  cells : List V
  live : Bool

inductive VOp where
  | mov (x : X)
  | pick (c a b : X)
  | bin (op : BinOp) (isb : Bool) (x y : X)
  | un (op : UnOp) (x : X)
  | conv (k : IntKind) (x : X)
  | len (x : X)
  | ixa (sz : Nat) (x i : X)
  | axa (n sz : Nat) (x i : X)
  | aix (n sz : Nat) (ag : Option Nat) (x i : X)
  | six (x i : X)
  | load (ag : Option Nat) (x : X)
  | store (n : Nat) (x v : X)
  | mk (z : List Value) (bytes : Nat) (l c : X)
  | slc (sz : Nat) (x : X) (lo hi mx : Option X)
  | fa (off : Nat) (x : X)
  | fld (off : Nat) (ag : Option Nat) (x : X)
  | box (x : X)
  | alloc (z : List Value)
  | build (z : List Value) (parts : List (Nat × Nat × X))
  | bsl (tok : Bool) (sz len : Nat) (z : List Value) (parts : List (Nat × Nat × X))
  | app (sz bytes : Nat) (z : List Value) (x y : X)
  | cpy (sz : Nat) (x y : X)
  | ext (x : X) (i : Nat)
  | call (f : FuncId) (args : List X)
  | callv (g : X) (args : List X)
  | ext64 (sub : Bool) (x y c : X)
  | mm (isMax : Bool) (x y : X)
  | mkf (f : FuncId)
  | nilc (x : X)
  | bad

structure VO where
  dst : Option Nat
  op : VOp
  guard : Option (Nat × Bool)

inductive VC where
  | skip
  | region (draw : Bool) (ops : List VO)
  | seq (a b : VC)
  | cond (x : X) (a b : VC)
  | block (id : Nat) (b : VC)
  | loop (b : VC)
  | exit (id : Nat)
  | ret
  | bad

structure VS where
  ρ : Nat → V
  σ : Nat → Option Blk
  c : Nat

def upd (ρ : Nat → V) (i : Nat) (v : V) : Nat → V := fun j => if j = i then v else ρ j
def updo (ρ : Nat → V) (d : Option Nat) (v : V) : Nat → V := match d with | some i => upd ρ i v | none => ρ
def supd (σ : Nat → Option Blk) (t : Nat) (b : Option Blk) : Nat → Option Blk := fun j => if j = t then b else σ j
def X.ev (ρ : Nat → V) : X → V | .t i => ρ i | .c v => v

theorem upd_same (ρ : Nat → V) (i : Nat) (v : V) : upd ρ i v i = v := by simp [upd]
theorem upd_ne (ρ : Nat → V) (i j : Nat) (v : V) (h : j ≠ i) : upd ρ i v j = ρ j := by simp [upd, h]
theorem supd_same (σ : Nat → Option Blk) (i : Nat) (v : Option Blk) : supd σ i v i = v := by simp [supd]
theorem supd_ne (σ : Nat → Option Blk) (i j : Nat) (v : Option Blk) (h : j ≠ i) : supd σ i v j = σ j := by simp [supd, h]

/-! ### what the operations do -/
def vint (op : BinOp) (k : IntKind) (x y : Int) : Option Value :=
  match op with
  | .add => some (.int k (k.wrap (x + y)))
  | .sub => some (.int k (k.wrap (x - y)))
  | .mul => some (.int k (k.wrap (x * y)))
  | .quo => if y = 0 then none else some (.int k (k.wrap (x.tdiv y)))
  | .rem => if y = 0 then none else some (.int k (x.tmod y))
  | .and => some (.int k (k.wrap (BitVec.ofInt k.bits x &&& BitVec.ofInt k.bits y).toNat))
  | .or => some (.int k (k.wrap (BitVec.ofInt k.bits x ||| BitVec.ofInt k.bits y).toNat))
  | .xor => some (.int k (k.wrap (BitVec.ofInt k.bits x ^^^ BitVec.ofInt k.bits y).toNat))
  | .andNot => some (.int k (k.wrap (BitVec.ofInt k.bits x &&& ~~~ BitVec.ofInt k.bits y).toNat))
  | .eql => some (.bool (x == y))
  | .neq => some (.bool (x != y))
  | .lss => some (.bool (decide (x < y)))
  | .leq => some (.bool (decide (x ≤ y)))
  | .gtr => some (.bool (decide (x > y)))
  | .geq => some (.bool (decide (x ≥ y)))
  | .shl | .shr => none

def vshift (op : BinOp) (k : IntKind) (x y : Int) : Option Value :=
  if y < 0 then none else
  match op with
  | .shl => some (.int k (k.wrap (x * 2 ^ min y.toNat k.bits)))
  | .shr => some (.int k (x.fdiv (2 ^ min y.toNat k.bits)))
  | _ => none

def BinOp.isShift : BinOp → Bool | .shl | .shr => true | _ => false

def vbin (op : BinOp) (isb : Bool) : V → V → Option V
  | .lit (.int k a), .lit (.int k' b) => if BinOp.isShift op then (vshift op k a b).map .lit else if k = k' then (vint op k a b).map .lit else none
  | .lit (.bool a), .lit (.bool b) => if isb then (match op with | .eql => some (.bool (a == b)) | .neq => some (.bool (!(a == b))) | _ => none) else none
  | _, _ => none

def vun (op : UnOp) : V → Option V
  | .lit (.int k n) => match op with
    | .neg => some (.int k (k.wrap (0 - n)))
    | .xor => some (.int k (k.wrap (BitVec.ofInt k.bits (if k.signed then -1 else k.max) ^^^ BitVec.ofInt k.bits n).toNat))
    | _ => none
  | .lit (.bool b) => match op with | .not => some (.bool (!b)) | _ => none
  | _ => none

def vlen : V → Option V
  | .sl _ sz l => some (.int .i64 ((l.length / sz : Nat) : Int))
  | .buf _ _ n _ _ => some (.int .i64 (n : Int))
  | _ => none

def vixa (sz : Nat) : V → V → Option V
  | .sl _ sz' l, .lit (.int _ n) => if sz' = sz ∧ 0 ≤ n ∧ n.toNat < l.length / sz then some (.eptr l (n.toNat * sz)) else none
  | .buf t off len _ sz', .lit (.int _ n) => if sz' = sz ∧ 0 ≤ n ∧ n.toNat < len then some (.ptr t (off + n.toNat * sz)) else none
  | _, _ => none

def vaxa (m sz : Nat) : V → V → Option V
  | .ptr t off, .lit (.int _ n) => if 0 ≤ n ∧ n.toNat < m then some (.ptr t (off + n.toNat * sz)) else none
  | .eptr l i, .lit (.int _ n) => if 0 ≤ n ∧ n.toNat < m then some (.eptr l (i + n.toNat * sz)) else none
  | _, _ => none

/-- a part of a row of cells: one cell, or 'some n': a struct or an array of n cells -/
def vpart (l : List V) (i : Nat) : Option Nat → Option V
  | none => l[i]?
  | some n => if i + n ≤ l.length then some (.agg ((l.drop i).take n)) else none

def vaix (m sz : Nat) (ag : Option Nat) : V → V → Option V
  | .agg l, .lit (.int _ n) => if 0 ≤ n ∧ n.toNat < m then vpart l (n.toNat * sz) ag else none
  | _, _ => none

/-- a byte of a text -/
def vsix : V → V → Option V
  | .lit (.string s), .lit (.int _ n) => if 0 ≤ n then (s[n.toNat]?).map fun b => .int .u8 (b.toNat : Int) else none
  | _, _ => none

def vfa (off : Nat) : V → Option V
  | .ptr t o => some (.ptr t (o + off))
  | .eptr l i => some (.eptr l (i + off))
  | _ => none

def vfld (off : Nat) (ag : Option Nat) : V → Option V
  | .agg l => vpart l off ag
  | _ => none

/-- the cells of a value that is stored -/
def V.cells : V → Option (List V)
  | .lit (.agg _) => none
  | .lit (.tuple _) => none
  | .lit v => some [.lit v]
  | .sl t sz l => some [.sl t sz l]
  | .agg l => some l
  | _ => none

def putCells : List V → Nat → List V → List V
  | l, _, [] => l
  | l, i, x :: xs => putCells (l.set i x) (i + 1) xs

def vfill (cs : List V) : List (Nat × Nat × V) → Option (List V)
  | [] => some cs
  | (off, n, v) :: r => match v.cells with
    | some vs => if vs.length = n ∧ off + n ≤ cs.length then vfill (putCells cs off vs) r else none
    | none => none

def ofCell : Value → V
  | .slice none 0 0 => .sl .nil 1 []
  | v => .lit v
def ofValue : Value → V
  | .agg cs => .agg (cs.toList.map ofCell)
  | v => ofCell v

def vlits (z : List Value) : List V := z.map ofCell

def vbuild (z : List Value) (parts : List (Nat × Nat × V)) : Option V := (vfill (vlits z) parts).map .agg

def rept (z : List Value) : Nat → List V
  | 0 => []
  | n + 1 => vlits z ++ rept z n

def vnum : Option V → Option (Option Int)
  | none => some none
  | some (.lit (.int _ n)) => some (some n)
  | _ => none

def capTop (cap : Option Nat) (n : Nat) : Int := match cap with | some c => (c : Int) | none => (n : Int)
def newCap (m : Option Int) (cap : Option Nat) (k : Nat) : Option Nat := match m, cap with | none, none => none | _, _ => some k

def vslc (sz : Nat) (x : V) (lo hi mx : Option V) : Option V :=
  match vnum lo, vnum hi, vnum mx with
  | some l, some h, some m =>
    match x with
    | .sl t sz' cs =>
      let n : Int := ((cs.length / sz : Nat) : Int)
      let hh : Int := h.getD n
      let ll : Int := l.getD 0
      let mm : Int := m.getD n
      if sz' = sz ∧ 0 ≤ ll ∧ ll ≤ hh ∧ hh ≤ mm ∧ mm ≤ n ∧ (m.isSome = true → h.isSome = true) then some (.sl (t.cut ll) sz ((cs.drop (ll.toNat * sz)).take ((hh.toNat - ll.toNat) * sz))) else none
    | .buf t off n cap sz' =>
      let hh : Int := h.getD n
      let ll : Int := l.getD 0
      let top : Int := capTop cap n
      let mm : Int := m.getD top
      if sz' = sz ∧ 0 ≤ ll ∧ ll ≤ hh ∧ hh ≤ mm ∧ mm ≤ top ∧ (m.isSome = true → h.isSome = true) then
        some (.buf t (off + ll.toNat * sz) (hh.toNat - ll.toNat) (newCap m cap (mm.toNat - ll.toNat)) sz) else none
    | _ => none
  | _, _, _ => none

def vext64 (sub : Bool) : V → V → V → Option V
  | .lit (.int .u64 x), .lit (.int .u64 y), .lit (.int .u64 c) =>
    if 0 ≤ x ∧ 0 ≤ y ∧ 0 ≤ c ∧ c ≤ 1 then
      some (if sub then .tup [.int .u64 (((x.toNat + 18446744073709551616 - y.toNat - c.toNat) % 18446744073709551616 : Nat) : Int), .int .u64 ((if x.toNat < y.toNat + c.toNat then 1 else 0 : Nat) : Int)]
        else .tup [.int .u64 (((x.toNat + y.toNat + c.toNat) % 18446744073709551616 : Nat) : Int), .int .u64 (((x.toNat + y.toNat + c.toNat) / 18446744073709551616 : Nat) : Int)])
    else none
  | _, _, _ => none

def vmm (isMax : Bool) : V → V → Option V
  | .lit (.int k a), .lit (.int _ b) => some (.int k (if isMax then (if b > a then b else a) else (if b < a then b else a)))
  | _, _ => none

def V.one : V → Bool
  | .buf .. | .ptr .. | .eptr .. | .any => false
  | _ => true

/-- operations that look at their operands alone -/
def vpure (e : X → V) : VOp → Option V
  | .mov x => some (e x)
  | .pick c a b => match e c with | .lit (.bool t) => some (if t then e a else e b) | _ => none
  | .bin op isb x y => vbin op isb (e x) (e y)
  | .un op x => vun op (e x)
  | .conv k x => match e x with | .lit (.int _ n) => some (.int k (k.wrap n)) | _ => none
  | .len x => vlen (e x)
  | .ixa sz x i => vixa sz (e x) (e i)
  | .axa n sz x i => vaxa n sz (e x) (e i)
  | .aix n sz ag x i => vaix n sz ag (e x) (e i)
  | .six x i => vsix (e x) (e i)
  | .slc sz x lo hi mx => vslc sz (e x) (lo.map e) (hi.map e) (mx.map e)
  | .fa off x => vfa off (e x)
  | .fld off ag x => vfld off ag (e x)
  | .build z ps => vbuild z (ps.map fun p => (p.1, p.2.1, e p.2.2))
  | .ext x i => match e x with | .tup l => l[i]? | _ => none
  | .ext64 sub x y c => vext64 sub (e x) (e y) (e c)
  | .mm m x y => vmm m (e x) (e y)
  | .mkf f => some (.lit (.func (.func f) #[] #[]))
  | .nilc x => match e x with | .ptr t o => some (.ptr t o) | .eptr l i => some (.eptr l i) | _ => none
  | _ => none

def VOp.isPure : VOp → Bool
  | .load .. | .store .. | .mk .. | .box .. | .alloc .. | .bsl .. | .app .. | .cpy .. | .call .. | .callv .. | .bad => false
  | _ => true

def vload (σ : Nat → Option Blk) (ag : Option Nat) : V → Option V
  | .ptr t off => match σ t with | some b => vpart b.cells off ag | none => none
  | .eptr l i => vpart l i ag
  | _ => none

def vstore (σ : Nat → Option Blk) (n : Nat) (x v : V) : Option (Nat → Option Blk) :=
  match x, v.cells with
  | .ptr t off, some cs => match σ t with
    | some b => if b.live = true ∧ cs.length = n ∧ off + n ≤ b.cells.length then some (supd σ t (some ⟨putCells b.cells off cs, true⟩)) else none
    | none => none
  | _, _ => none

def resX : Operand → Option X
  | .tmp t => some (.t t)
  | .const v => match v with
    | .agg cs => if cs.all (·.oneCell') then some (.c (ofValue (.agg cs))) else none
    | v => some (.c (ofValue v))
  | .func f => some (.c (.lit (.func (.func f) #[] #[])))
  | .global _ => none

def aggOf (P : Program) (t : TypeId) : Option (Option Nat) :=
  match P.underlying t with
  | some (.struct _) => (P.info? t).map fun i => some i.size
  | some (.array _ _) => (P.info? t).map fun i => some i.size
  | some _ => some none
  | none => none

def res1 (x : Operand) (k : X → VOp) : VOp := match resX x with | some x => k x | none => .bad
def res2 (x y : Operand) (k : X → X → VOp) : VOp := match resX x, resX y with | some x, some y => k x y | _, _ => .bad
def resO : Option Operand → Option (Option X)
  | none => some none
  | some x => match resX x with | some x => some (some x) | none => none
def resL : List Operand → Option (List X)
  | [] => some []
  | x :: r => match resX x, resL r with | some x, some r => some (x :: r) | _, _ => none
def resP (place : Nat → Option (Nat × Nat)) : List (Nat × Operand) → Option (List (Nat × Nat × X))
  | [] => some []
  | (i, x) :: r => match place i, resX x, resP place r with | some (o, n), some x, some r => some ((o, n, x) :: r) | _, _, _ => none

def resOp (P : Program) (draw : Bool) (o : Oper) : VOp :=
  match o.op with
  | .move x => res1 x .mov
  | .assign x => res1 x .mov
  | .pick c a b => match resX c, resX a, resX b with | some c, some a, some b => .pick c a b | _, _, _ => .bad
  | .binOp op t x y _ => match P.underlying t with
    | some .bool => res2 x y (.bin op true)
    | _ => res2 x y (.bin op false)
  | .unOp op _ x => res1 x (.un op)
  | .convert s d x => match P.underlying s, P.underlying d with
    | some (.int _), some (.int k) => res1 x (.conv k)
    | _, _ => .bad
  | .nilCheck x => res1 x .nilc
  | .load t x => match aggOf P t with | some g => res1 x (.load g) | none => .bad
  | .store t x v => match P.info? t with | some i => res2 x v (.store i.size) | none => .bad
  | .box _ x => res1 x .box
  | .alloc e => match (P.info? e).bind (·.zero) with | some z => if z.cells.all (·.oneCell') then .alloc z.cells.toList else .bad | none => .bad
  | .makeSlice t l c => match P.underlying t with
    | some (.slice e) => match P.info? e with
      | some i => match i.zero with
        | some z => if 0 < i.size ∧ z.cells.size = i.size ∧ z.cells.all (·.oneCell') then res2 l c (.mk z.cells.toList i.bytes) else .bad
        | none => .bad
      | none => .bad
    | _ => .bad
  | .slice t x lo hi mx => match P.underlying t with
    | some (.slice e) => match P.info? e, resX x, resO lo, resO hi, resO mx with
      | some i, some x, some lo, some hi, some mx => .slc i.size x lo hi mx
      | _, _, _, _, _ => .bad
    | _ => .bad
  | .fieldAddr t x f => match P.underlying t with
    | some (.struct fs) => match fs[f]? with
      | some fl => match P.info? fl.type with
        | some i => if i.size = 0 then .bad else res1 x (.fa fl.offset)
        | none => .bad
      | none => .bad
    | _ => .bad
  | .field t x f => match P.underlying t with
    | some (.struct fs) => match fs[f]? with
      | some fl => match aggOf P fl.type with
        | some g => res1 x (.fld fl.offset g)
        | none => .bad
      | none => .bad
    | _ => .bad
  | .indexAddr t x i => match P.underlying t with
    | some (.slice e) => match P.info? e with | some j => res2 x i (.ixa j.size) | none => .bad
    | some (.array n e) => match P.info? e with | some j => if 2 ≤ n then res2 x i (.axa n j.size) else .bad | none => .bad
    | _ => .bad
  | .index t x i => match P.underlying t with
    | some (.array n e) => match P.info? e, aggOf P e with | some j, some g => res2 x i (.aix n j.size g) | _, _ => .bad
    | some .string => res2 x i .six
    | _ => .bad
  | .build t ps => if (((P.info? t).bind (·.zero)).map fun z => z.cells.all (·.oneCell')) != some true then .bad else match P.underlying t, (P.info? t).bind (·.zero) with
    | some (.struct fs), some z => match fs.toList.mapM (fun f => (P.info? f.type).map fun i => (f.offset, i.size)) with
      | some places => match resP (places.toArray[·]?) ps.toList with | some ps => .build z.cells.toList ps | none => .bad
      | none => .bad
    | some (.array _ e), some z => match P.info? e with
      | some j => match resP (fun i => some (i * j.size, j.size)) ps.toList with | some ps => .build z.cells.toList ps | none => .bad
      | none => .bad
    | _, _ => .bad
  | .buildSlice t n ps => match P.underlying t with
    | some (.slice e) => match P.info? e with
      | some i => match i.zero with
        | some z => if 0 < i.size ∧ z.cells.size = i.size ∧ z.cells.all (·.oneCell') ∧ 0 < n ∧ n * i.size ≤ 2 ^ 24 then
            (match resP (fun j => some (j * i.size, i.size)) ps.toList with | some ps => .bsl (!draw) i.size n z.cells.toList ps | none => .bad) else .bad
        | none => .bad
      | none => .bad
    | _ => .bad
  | .extract x i => res1 x (.ext · i)
  | .makeFunc fn first captured => match fn with
    | .func f => if first.size = 0 ∧ captured.size = 0 then .mkf f else .bad
    | _ => .bad
  | .call c => match c.callee with
    | .builtin .len => match c.args.toList, c.argTypes.toList with
      | [x], [t] => match P.underlying t with | some (.slice _) => res1 x .len | _ => .bad
      | _, _ => .bad
    | .builtin .max => match c.args.toList with | [x, y] => res2 x y (.mm true) | _ => .bad
    | .builtin .min => match c.args.toList with | [x, y] => res2 x y (.mm false) | _ => .bad
    | .builtin .append => match c.args.toList, c.argTypes.toList with
      | [x, y], [t, u] => match P.underlying t, P.underlying u with
        | some (.slice e), some (.slice _) => match P.info? e with
          | some i => match i.zero with
            | some z => if t = u ∧ 0 < i.size ∧ 0 < i.bytes ∧ z.cells.size = i.size ∧ z.cells.all (·.oneCell') then res2 x y (.app i.size i.bytes z.cells.toList) else .bad
            | none => .bad
          | none => .bad
        | _, _ => .bad
      | _, _ => .bad
    | .builtin .copy => match c.args.toList, c.argTypes.toList with
      | [x, y], [t, _] => match P.underlying t with
        | some (.slice e) => match P.info? e with | some i => if i.size = 1 then res2 x y (.cpy 1) else .bad | none => .bad
        | _ => .bad
      | _, _ => .bad
    | .value (.func f) => match P.funcs[f]? with
      | some fn => if fn.name == "runtime.NumGoroutine" then .bad else
        match fn.body with
        | some _ => match resL c.args.toList with | some l => .call f l | none => .bad
        | none => match c.args.toList with
          | [x, y, z] => match resX x, resX y, resX z with
            | some x, some y, some z => if fn.origin = "" then (if fn.name = "math/bits.Add64" then .ext64 false x y z else if fn.name = "math/bits.Sub64" then .ext64 true x y z else .bad) else .bad
            | _, _, _ => .bad
          | _ => .bad
      | none => .bad
    | .value (.tmp t) => match resL c.args.toList with | some l => .callv (.t t) l | none => .bad
    | _ => .bad
  | _ => .bad

def resGuard (ops : Array Oper) (g : Option (Nat × Bool)) : Option (Option (Nat × Bool)) :=
  match g with
  | none => some none
  | some (j, b) => match (ops[j]?).bind (·.dst) with | some d => some (some (d, b)) | none => none

def resVO (P : Program) (draw : Bool) (ops : Array Oper) (o : Oper) : VO :=
  match resGuard ops o.guard with
  | some g => ⟨o.dst, resOp P draw o, g⟩
  | none => ⟨o.dst, .bad, none⟩

/-- which two operations, open in their order (the first one ahead in the text), may change places -/
def VOp.isBsl0 : VOp → Bool | .bsl tok _ _ _ _ => !tok | _ => false
def VOp.isLoad : VOp → Bool | .load .. => true | _ => false
def VOp.isCall : VOp → Bool | .call .. => true | _ => false
def VOp.swaps (x y : VOp) : Bool :=
  x.isPure || y.isPure || x.isBsl0 || y.isBsl0 || (x.isLoad && y.isLoad) || (x.isLoad && y.isCall) || (x.isCall && y.isLoad)

def VOp.hasApp : VOp → Bool | .app .. => true | _ => false

def X.reads : X → List Nat | .t i => [i] | .c _ => []
def oreads : Option X → List Nat | some x => x.reads | none => []
def VOp.reads : VOp → List Nat
  | .mov x | .un _ x | .conv _ x | .len x | .load _ x | .fa _ x | .fld _ _ x | .box x | .ext x _ | .nilc x => x.reads
  | .pick a b c | .ext64 _ a b c => a.reads ++ b.reads ++ c.reads
  | .bin _ _ x y | .ixa _ x y | .axa _ _ x y | .aix _ _ _ x y | .six x y | .store _ x y | .mk _ _ x y | .app _ _ _ x y | .cpy _ x y | .mm _ x y => x.reads ++ y.reads
  | .slc _ x a b c => x.reads ++ oreads a ++ oreads b ++ oreads c
  | .build _ ps | .bsl _ _ _ _ ps => ps.flatMap fun p => p.2.2.reads
  | .call _ l => l.flatMap X.reads
  | .callv x l => x.reads ++ l.flatMap X.reads
  | .alloc _ | .mkf _ | .bad => []
def VO.reads (o : VO) : List Nat := (match o.guard with | some (t, _) => [t] | none => []) ++ o.op.reads

def VO.apart (x y : VO) : Bool :=
  (match x.dst with | some d => !y.reads.contains d && (match y.dst with | some e => !(d == e) | none => true) | none => true) &&
  (match y.dst with | some d => !x.reads.contains d | none => true)

def VO.swaps (x y : VO) : Bool := x.apart y && !x.op.hasApp && !y.op.hasApp && x.op.swaps y.op

def bindsOn (o : Oper) (i : Nat) : Bool := o.after.any fun e => Region.binds .any e && e.on == i
def ordered (ops : Array Oper) (i : Nat) (o : Oper) : Bool :=
  bindsOn o i || o.after.any fun e => Region.binds .any e && (match ops[e.on]? with | some o' => bindsOn o' i | none => false)

def okDraw (P : Program) (ops : Array Oper) : Bool :=
  (List.range ops.size).all fun j => match ops[j]? with
    | some y => (y.after.all fun e => !Region.binds .any e || decide (e.on < j)) && ((List.range j).all fun i => ordered ops i y || (match ops[i]? with
      | some x => (resVO P true ops x).swaps (resVO P true ops y)
      | none => false))
    | none => false

def okDst (nt : Nat) (ops : Array Oper) : Bool := ops.all fun o => match o.dst with | some d => decide (d < nt) | none => true

inductive VRes where
  | tmp (t : Nat)
  | cell (t : Nat) (ag : Option Nat)
def resResult (P : Program) : ResultVar → Option VRes
  | .tmp t => some (.tmp t)
  | .cell a t => (aggOf P t).map (.cell a)
def resResults (P : Program) : List ResultVar → Option (List VRes)
  | [] => some []
  | r :: l => match resResult P r, resResults P l with | some r, some l => some (r :: l) | _, _ => none

def resCode (P : Program) (nt : Nat) : Code → VC
  | .skip => .skip
  | .region _ ops draw => if okDst nt ops && (!draw || okDraw P ops) then .region draw (ops.toList.map (resVO P draw ops)) else .bad
  | .seq a b => .seq (resCode P nt a) (resCode P nt b)
  | .cond x a b => match resX x with | some x => .cond x (resCode P nt a) (resCode P nt b) | none => .bad
  | .block id b => .block id (resCode P nt b)
  | .loop b => .loop (resCode P nt b)
  | .exit id => .exit id
  | .ret => .ret
  | _ => .bad

/-- the cells of a slice that is read -/
def vcells (sz : Nat) (σ : Nat → Option Blk) : V → Option (List V)
  | .sl .nil _ l => some l
  | .sl _ sz' l => if sz' = sz then some l else none
  | .buf t off n _ sz' => match σ t with | some b => if sz' = sz ∧ off + n * sz ≤ b.cells.length then some ((b.cells.drop off).take (n * sz)) else none | none => none
  | _ => none

end Go.VM
