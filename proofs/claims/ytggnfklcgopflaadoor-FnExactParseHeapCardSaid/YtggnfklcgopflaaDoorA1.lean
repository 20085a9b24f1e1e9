/- Parts of the proof of FnExactParseHeapCardSaid: La Lb Lc Ld Ld2 Le Lf Lg Lv Lh. -/
import Derived.Calls
import Derived.Below
import Derived.Laws.Rows
import Derived.Laws.Sem
import Derived.Laws.World
import Derived.Laws.Cells
import Derived.Laws.Entries
import Derived.Laws.CopyRow
import Derived.Laws.AppendOwn
import Derived.ChangeKeysEq
import Derived.Laws.StructEq
import Derived.Laws.Slices
import Derived.MapKept
set_option linter.all false
namespace Go.Ab
open Go

inductive LV where
  | val (v : Value)
  | ref (t off len : Nat)
  | ptr (t off : Nat)
  | mp (t : Nat)
  | clo (f : FuncId) (caps : List (Nat × Nat))
  | agg (cs : List LV)
  | tup (vs : List LV)
  | junk

instance : Inhabited LV := ⟨.junk⟩

def LV.nil : LV := .val (.slice none 0 0)
@[reducible] def LV.I (n : Int) : LV := .val (.int .i64 n)
@[reducible] def LV.U (n : Int) : LV := .val (.int .u64 n)
@[reducible] def LV.B (b : Bool) : LV := .val (.bool b)
@[reducible] def LV.S (s : ByteArray) : LV := .val (.string s)

inductive Blk where
  | row (cs : List LV) (own : Bool) (esz : Nat)
  | map (es : List (LV × LV))

def Blk.isOwn : Blk → Bool
  | .row _ own _ => own
  | .map _ => true

abbrev Mem := List (Option Blk)

def All2 {α β : Type} (R : α → β → Prop) : List α → List β → Prop
  | [], [] => True
  | a :: as, b :: bs => R a b ∧ All2 R as bs
  | _, _ => False

structure Base where
  b : Nat
  o : Nat
  esz : Nat
  tot : Nat
  virt : Bool

abbrev Gh := Nat → Option Base

def VRp (G : Gh) (t off : Nat) (x : Value) : Prop :=
  ∃ β, G t = some β ∧ β.virt = false ∧ x = .pointer (some ⟨β.b, β.o + off, none⟩)

def VR1 (G : Gh) : LV → Value → Prop
  | .val v, x => x = v ∧ v.oneCell' = true
  | .ref t off len, x => ∃ β, G t = some β ∧ ∃ a cap, x = .slice a len cap ∧
      ((len = 0 ∧ cap = 0) ∨ (β.virt = false ∧ a = some ⟨β.b, β.o + off, none⟩ ∧ len ≤ cap ∧ off + cap * β.esz ≤ β.tot))
  | .ptr t off, x => VRp G t off x
  | .mp t, x => ∃ β, G t = some β ∧ β.virt = false ∧ x = .map (some β.b)
  | .clo f caps, x => ∃ xs : List Value, x = .func (.func f) #[] xs.toArray ∧ All2 (fun p y => VRp G p.1 p.2 y) caps xs
  | _, _ => False

def VR0 (G : Gh) : LV → Value → Prop
  | .agg cs, x => ∃ xs : List Value, x = .agg xs.toArray ∧ All2 (VR1 G) cs xs
  | l, x => VR1 G l x

def VR (G : Gh) : LV → Value → Prop
  | .tup vs, x => ∃ xs : List Value, x = .tuple xs.toArray ∧ All2 (VR0 G) vs xs
  | .junk, _ => True
  | l, x => VR0 G l x

def EmbB (G : Gh) (w : World) : Blk → Base → Prop
  | .row cs own esz, β => β.esz = esz ∧ ((β.virt = true ∧ cs = []) ∨
      (β.virt = false ∧ ∃ (c : Array Value) (e : TypeId) (fz : Nat × Nat), w.heap[β.b]? = some (.cells c e fz) ∧ (own = true → fz = (0, 0) ∧ c.size = β.o + β.tot) ∧
        cs.length ≤ β.tot ∧ ∀ (j : Nat) (l : LV), cs[j]? = some l → ∃ x, c[β.o + j]? = some x ∧ VR1 G l x))
  | .map es, β => β.virt = false ∧ ∃ (en : Array MapEntry) (clock : Nat), w.heap[β.b]? = some (.map en clock) ∧
      All2 (fun (p : LV × LV) (e : MapEntry) => VR0 G p.1 e.key ∧ VR1 G p.2 e.val) es en.toList

def Live (M : Mem) (t : Nat) (blk : Blk) : Prop := M[t]? = some (some blk)

def OwnB (G : Gh) (M : Mem) (b : Nat) : Prop :=
  ∃ t blk β, Live M t blk ∧ blk.isOwn = true ∧ G t = some β ∧ β.virt = false ∧ β.b = b

structure Inv (G : Gh) (M : Mem) (w : World) : Prop where
  emb : ∀ t blk, Live M t blk → ∃ β, G t = some β ∧ EmbB G w blk β
  sep : ∀ t t' blk blk' β β', t ≠ t' → Live M t blk → Live M t' blk' → blk.isOwn = true → G t = some β → G t' = some β' → β.virt = false → β'.virt = false → β.b ≠ β'.b
  top : ∀ t, M.length ≤ t → G t = none

structure Step (G : Gh) (M : Mem) (w : World) (G' : Gh) (N : Mem) (w' : World) : Prop where
  gh : ∀ t, t < M.length → G' t = G t
  len : M.length ≤ N.length
  size : w.heap.size ≤ w'.heap.size
  os : w'.os = w.os
  tape : w'.tape = w.tape
  output : w'.output = w.output
  keep : ∀ b, b < w.heap.size → ¬ OwnB G M b → w'.heap[b]? = w.heap[b]?
  own : ∀ b, OwnB G' N b → w.heap.size ≤ b ∨ OwnB G M b
  ro : ∀ t blk, Live N t blk → blk.isOwn = false → Live M t blk

def HasText (P : Program) (f : FuncId) : Prop := ∃ fn, P.funcs[f]? = some fn ∧ fn.body.isNone = false ∧ (fn.name == "runtime.NumGoroutine") = false

def CallsR (P : Program) (f : FuncId) (args : List LV) (M : Mem) (Post : LV → Mem → Prop) : Prop :=
  HasText P f ∧ ∀ (G : Gh) (w : World) (xs : List Value), Inv G M w → All2 (VR G) args xs →
    Calls P f xs.toArray w fun e w' => ∃ v N x G', Post v N ∧ e = .returned x ∧ VR G' v x ∧ Inv G' N w' ∧ Step G M w G' N w'

def CallsTo (P : Program) (f : FuncId) (args : List LV) (M : Mem) (v : LV) (N : Mem) : Prop := CallsR P f args M fun v' N' => v' = v ∧ N' = N

/-! ### The code -/
inductive Opd where
  | t (i : Nat)
  | c (v : LV)

inductive AOp where
  | mv (d : Nat) (x : Opd)
  | pick (d : Nat) (c a b : Opd)
  | bin (d : Nat) (op : BinOp) (x y : Opd)
  | eqs (d : Nat) (neq : Bool) (n : Nat) (x y : Opd)
  | eqb (d : Nat) (neq : Bool) (x y : Opd)
  | un (d : Nat) (op : UnOp) (x : Opd)
  | conv (d : Nat) (k : IntKind) (x : Opd)
  | box (d : Nat) (x : Opd)
  | alloc (d : Nat) (z : List LV)
  | build (d : Nat) (z : List LV) (parts : List (Nat × Nat × Opd))
  | buildSl (d n esz : Nat) (z : List LV) (parts : List (Nat × Nat × Opd))
  | load1 (d : Nat) (x : Opd)
  | loadN (d n : Nat) (x : Opd)
  | store (n : Nat) (a x : Opd)
  | nilck (d : Nat) (x : Opd)
  | mkf (d : Nat) (f : FuncId) (caps : List Opd)
  | mkmap (d : Nat)
  | mksl (d esz bytes : Nat) (z : List LV) (len cap : Opd)
  | slS (d esz : Nat) (x : Opd) (lo hi : Option Opd)
  | sl0 (d esz : Nat) (x : Opd)
  | slA (d n esz : Nat) (x : Opd) (lo hi : Option Opd)
  | slT (d : Nat) (x : Opd) (lo hi : Option Opd)
  | fieldAddr (d : Nat) (x : Opd) (off : Nat)
  | field (d : Nat) (x : Opd) (off : Nat) (n : Option Nat)
  | idxS (d esz : Nat) (x i : Opd)
  | idxA (d n esz : Nat) (x i : Opd)
  | index (d n esz : Nat) (agg : Bool) (x i : Opd)
  | idxT (d : Nat) (x i : Opd)
  | lookup (d n : Nat) (m k : Opd) (z : Value) (ok : Bool)
  | mupd (n : Nat) (m k v : Opd)
  | extract (d : Nat) (x : Opd) (i : Nat)
  | len (d : Nat) (x : Opd)
  | lenT (d : Nat) (x : Opd)
  | append (d esz bytes : Nat) (s x : Opd)
  | copy (d esz : Nat) (s x : Opd)
  | mm (d : Nat) (mx : Bool) (xs : List Opd)
  | clear (d : Option Nat) (esz : Nat) (z : List LV) (x : Opd)
  | call (d : Option Nat) (f : FuncId) (args : List Opd)
  | callV (d : Option Nat) (x : Opd) (args : List Opd)
  | any (d : Nat)
  | bad

abbrev GOp := Option (Nat × Bool) × AOp

structure DOp where
  g : GOp
  msk : List Nat
  unl : List Nat

inductive ACode where
  | skip
  | ops (l : List GOp)
  | draw (l : List DOp)
  | seq (a b : ACode)
  | cond (c : Opd) (a b : ACode)
  | block (id : Nat) (a : ACode)
  | loop (a : ACode)
  | exit (id : Nat)
  | ret
  | bad

inductive ARes where
  | tmp (t : Nat)
  | cell1 (t : Nat)
  | cellN (t n : Nat)

structure AFn where
  np : Nat
  nt : Nat
  res : List ARes
  body : ACode

/-! ### What the operations do -/
abbrev Fr := Nat → LV

def upd (fr : Fr) (d : Nat) (v : LV) : Fr := fun i => if i = d then v else fr i

def Opd.ev (fr : Fr) : Opd → LV
  | .t i => fr i
  | .c v => v

def LV.one : LV → Bool
  | .agg _ | .tup _ | .junk => false
  | _ => true

def LV.cells : LV → Option (List LV)
  | .agg cs => some cs
  | .tup _ | .junk => none
  | v => some [v]

def getRow (M : Mem) (t : Nat) : Option (List LV) :=
  match M[t]? with
  | some (some (.row cs _ _)) => some cs
  | _ => none

def getEsz (M : Mem) (t : Nat) : Option Nat :=
  match M[t]? with
  | some (some (.row _ _ e)) => some e
  | _ => none

def getCell (M : Mem) (t off : Nat) : Option LV := (getRow M t).bind (·[off]?)

def getCells (M : Mem) (t off n : Nat) : Option (List LV) :=
  (getRow M t).bind fun cs => if off + n ≤ cs.length then some ((cs.drop off).take n) else none

def splice (cs : List LV) (off : Nat) (vs : List LV) : List LV := cs.take off ++ vs ++ cs.drop (off + vs.length)

def setCells (M : Mem) (t off : Nat) (vs : List LV) : Option Mem :=
  match M[t]? with
  | some (some (.row cs true e)) => if off + vs.length ≤ cs.length then some (M.set t (some (.row (splice cs off vs) true e))) else none
  | _ => none

def fillC (z : List LV) : List (Nat × Nat × LV) → Option (List LV)
  | [] => some z
  | (off, n, v) :: r =>
    match v.cells with
    | some cs => if cs.length = n ∧ off + n ≤ z.length then fillC (splice z off cs) r else none
    | none => none

def binInt (op : BinOp) (k : IntKind) (a b : Int) : Option (LV × Prop) :=
  match op with
  | .add => some (.val (.int k (k.wrap (a + b))), True)
  | .sub => some (.val (.int k (k.wrap (a - b))), True)
  | .mul => some (.val (.int k (k.wrap (a * b))), True)
  | .quo => some (.val (.int k (k.wrap (a.tdiv b))), b ≠ 0)
  | .rem => some (.val (.int k (a.tmod b)), b ≠ 0)
  | .and => some (.val (.int k (k.wrap ((BitVec.ofInt k.bits a &&& BitVec.ofInt k.bits b).toNat : Int))), True)
  | .or => some (.val (.int k (k.wrap ((BitVec.ofInt k.bits a ||| BitVec.ofInt k.bits b).toNat : Int))), True)
  | .xor => some (.val (.int k (k.wrap ((BitVec.ofInt k.bits a ^^^ BitVec.ofInt k.bits b).toNat : Int))), True)
  | .andNot => some (.val (.int k (k.wrap ((BitVec.ofInt k.bits a &&& ~~~ BitVec.ofInt k.bits b).toNat : Int))), True)
  | .eql => some (.B (a == b), True)
  | .neq => some (.B (a != b), True)
  | .lss => some (.B (decide (a < b)), True)
  | .leq => some (.B (decide (a ≤ b)), True)
  | .gtr => some (.B (decide (a > b)), True)
  | .geq => some (.B (decide (a ≥ b)), True)
  | _ => none

def binStr (op : BinOp) (a b : ByteArray) : Option (LV × Prop) :=
  match op with
  | .add => some (.S (a ++ b), ((a.size + b.size : Nat) : Int) ≤ IntKind.i64.max)
  | .eql => some (.B (a.toList == b.toList), True)
  | .neq => some (.B (!(a.toList == b.toList)), True)
  | .lss => some (.B (Op.bytesLess a.toList b.toList), True)
  | _ => none

def binV (op : BinOp) : LV → LV → Option (LV × Prop)
  | .val (.int k a), .val (.int k' b) =>
    match op with
    | .shl => some (.val (.int k (k.wrap (a * 2 ^ (min b.toNat k.bits)))), 0 ≤ b)
    | .shr => some (.val (.int k (a.fdiv (2 ^ (min b.toNat k.bits)))), 0 ≤ b)
    | _ => if k = k' then binInt op k a b else none
  | .val (.string a), .val (.string b) => binStr op a b
  | _, _ => none

def eqC : List LV → List LV → Option Bool
  | [], [] => some true
  | .val (.int k a) :: r, .val (.int k' b) :: r' => if k = k' then (eqC r r').map ((a == b) && ·) else none
  | _, _ => none

def eqV (neq : Bool) (n : Nat) : LV → LV → Option LV
  | .agg xs, .agg ys => if xs.length = n then (eqC xs ys).map fun b => .B (if neq then !b else b) else none
  | _, _ => none

def eqbV (neq : Bool) : LV → LV → Option LV
  | .val (.bool a), .val (.bool b) => some (.B (if neq then !(a == b) else a == b))
  | _, _ => none

def nilV (neq : Bool) : LV → Option LV
  | .ref _ _ (_ + 1) => some (.B neq)
  | .val (.slice none 0 0) => some (.B (!neq))
  | _ => none

def eqoV (neq : Bool) (x y : Opd) (fr : Fr) : Option LV :=
  match y with
  | .c (.val (.slice none 0 0)) => nilV neq (x.ev fr)
  | _ => eqbV neq (x.ev fr) (y.ev fr)

def unV (op : UnOp) : LV → Option LV
  | .val (.bool b) => match op with | .not => some (.B (!b)) | _ => none
  | .val (.int k n) => match op with
    | .neg => some (.val (.int k (k.wrap (0 - n))))
    | .xor => some (.val (.int k (k.wrap ((BitVec.ofInt k.bits (if k.signed then -1 else k.max) ^^^ BitVec.ofInt k.bits n).toNat : Int))))
    | _ => none
  | _ => none

def lenV : LV → Option Int
  | .ref _ _ n => some n
  | .val (.slice _ n _) => some n
  | _ => none

def lenTV : LV → Option Int
  | .val (.string s) => some s.size
  | _ => none

def winC (M : Mem) (esz : Nat) : LV → Option (List LV)
  | .ref t off n => if n = 0 then some [] else getCells M t off (n * esz)
  | .val (.slice none 0 _) => some []
  | _ => none

def intV : LV → Option Int
  | .val (.int _ n) => some n
  | _ => none

def slBounds (fr : Fr) (n : Nat) (lo hi : Option Opd) : Option (Int × Int) :=
  match (match lo with | none => some 0 | some x => intV (x.ev fr)), (match hi with | none => some (n : Int) | some x => intV (x.ev fr)) with
  | some l, some h => some (l, h)
  | _, _ => none

def capOf : List Opd → Fr → Option (List (Nat × Nat))
  | [], _ => some []
  | x :: r, fr => match x.ev fr with
    | .ptr t off => (capOf r fr).map ((t, off) :: ·)
    | _ => none

def maxV (mx : Bool) : List LV → Option LV
  | [.val (.int .i64 a)] => some (.I a)
  | .val (.int .i64 a) :: r => match maxV mx r with
    | some (.val (.int .i64 b)) => some (.I (if mx then max a b else min a b))
    | _ => none
  | _ => none

def keyEq : LV → LV → Option Bool
  | .val (.int k a), .val (.int k' b) => if k = k' then some (a == b) else none
  | .agg xs, .agg ys => eqC xs ys
  | _, _ => none

def findE (k : LV) : List (LV × LV) → Option (Option LV)
  | [] => some none
  | e :: r => match keyEq k e.1 with
    | some true => some (some e.2)
    | some false => findE k r
    | none => none

def putE (k v : LV) : List (LV × LV) → Option (List (LV × LV))
  | [] => some [(k, v)]
  | e :: r => match keyEq k e.1 with
    | some true => some ((k, v) :: r)
    | some false => (putE k v r).map (e :: ·)
    | none => none

def keyN (n : Nat) : LV → Bool
  | .val (.int _ _) => n == 0
  | .agg cs => (cs.length == n) && (0 < n)
  | _ => false

def lookM (n : Nat) (m k : LV) (M : Mem) : Option (Option LV) :=
  match m with
  | .mp t => match M[t]? with
    | some (some (.map es)) => if keyN n k then findE k es else none
    | _ => none
  | _ => none

def putM (n : Nat) (m k v : LV) (M : Mem) : Option Mem :=
  match m with
  | .mp t => match M[t]? with
    | some (some (.map es)) => if keyN n k && v.one then (putE k v es).map fun es' => M.set t (some (.map es')) else none
    | _ => none
  | _ => none

def sop (o : AOp) (fr : Fr) (M : Mem) : Option (Nat × LV × Prop) :=
  match o with
  | .mv d x => some (d, x.ev fr, True)
  | .pick d c a b => match c.ev fr with | .val (.bool t) => some (d, (if t then a.ev fr else b.ev fr), True) | _ => none
  | .bin d op x y => (binV op (x.ev fr) (y.ev fr)).map fun (v, c) => (d, v, c)
  | .eqs d neq n x y => (eqV neq n (x.ev fr) (y.ev fr)).map fun v => (d, v, True)
  | .eqb d neq x y => (eqoV neq x y fr).map fun v => (d, v, True)
  | .un d op x => (unV op (x.ev fr)).map fun v => (d, v, True)
  | .conv d k x => match x.ev fr with | .val (.int _ n) => some (d, .val (.int k (k.wrap n)), True) | _ => none
  | .build d z ps => (fillC z (ps.map fun (o, n, x) => (o, n, x.ev fr))).map fun cs => (d, .agg cs, True)
  | .load1 d x => match x.ev fr with | .ptr t off => (getCell M t off).map fun v => (d, v, True) | _ => none
  | .loadN d n x => match x.ev fr with | .ptr t off => (getCells M t off n).map fun cs => (d, .agg cs, True) | _ => none
  | .nilck d x => match x.ev fr with | .ptr t off => some (d, .ptr t off, True) | _ => none
  | .mkf d f caps => (capOf caps fr).map fun cs => (d, .clo f cs, True)
  | .fieldAddr d x off => match x.ev fr with | .ptr t o => some (d, .ptr t (o + off), True) | _ => none
  | .field d x off n => match x.ev fr with
    | .agg cs => match n with
      | none => (cs[off]?).map fun v => (d, v, True)
      | some n => if off + n ≤ cs.length then some (d, .agg ((cs.drop off).take n), True) else none
    | _ => none
  | .idxS d esz x i => match x.ev fr, intV (i.ev fr) with
    | .ref t off n, some i => some (d, .ptr t (off + i.toNat * esz), 0 ≤ i ∧ i < n)
    | _, _ => none
  | .idxA d n esz x i => match x.ev fr, intV (i.ev fr) with
    | .ptr t off, some i => some (d, .ptr t (off + i.toNat * esz), 0 ≤ i ∧ i < n)
    | _, _ => none
  | .index d n esz agg x i => match x.ev fr, intV (i.ev fr) with
    | .agg cs, some i => if agg then some (d, .agg ((cs.drop (i.toNat * esz)).take esz), 0 ≤ i ∧ i < n ∧ i.toNat * esz + esz ≤ cs.length)
      else match cs[i.toNat * esz]? with
        | some v => some (d, v, 0 ≤ i ∧ i < n)
        | none => none
    | _, _ => none
  | .idxT d x i => match x.ev fr, intV (i.ev fr) with
    | .val (.string s), some i => some (d, .val (.int .u8 ((s.data.toList.getD i.toNat 0).toNat : Int)), 0 ≤ i ∧ i < s.size)
    | _, _ => none
  | .extract d x i => match x.ev fr with
    | .tup vs => (vs[i]?).map fun v => (d, v, True)
    | _ => none
  | .len d x => (lenV (x.ev fr)).map fun n => (d, .I n, True)
  | .lenT d x => (lenTV (x.ev fr)).map fun n => (d, .I n, True)
  | .mm d mx xs => (maxV mx (xs.map (·.ev fr))).map fun v => (d, v, True)
  | .slS d esz x lo hi => match x.ev fr with
    | .val (.slice none 0 0) => (slBounds fr 0 lo hi).map fun (l, h) => (d, .nil, l = 0 ∧ h = 0)
    | .ref t off n => if getEsz M t = some esz then (slBounds fr n lo hi).map fun (l, h) => (d, .ref t (off + l.toNat * esz) (h.toNat - l.toNat), 0 ≤ l ∧ l ≤ h ∧ h ≤ n) else none
    | _ => none
  | .slA d n esz x lo hi => match x.ev fr with
    | .ptr t off => if getEsz M t = some 0 ∧ (getCells M t off (n * esz)).isSome then (slBounds fr n lo hi).map fun (l, h) => (d, .ref t (off + l.toNat * esz) (h.toNat - l.toNat), 0 ≤ l ∧ l ≤ h ∧ h ≤ n) else none
    | _ => none
  | .slT d x lo hi => match x.ev fr with
    | .val (.string s) => (slBounds fr s.size lo hi).map fun (l, h) => (d, .S (s.extract l.toNat h.toNat), 0 ≤ l ∧ l ≤ h ∧ h ≤ s.size)
    | _ => none
  | .lookup d n m k z ok => (lookM n (m.ev fr) (k.ev fr) M).map fun r => (d, (if ok then .tup [r.getD (.val z), .B r.isSome] else r.getD (.val z)), True)
  | .any d => some (d, .junk, True)
  | _ => none

def aop (o : AOp) (fr : Fr) (M : Mem) : Option (Nat × (Nat → LV) × Blk × Prop) :=
  match o with
  | .box d x => (x.ev fr).cells.map fun cs => (d, (.ptr · 0), .row cs true 0, True)
  | .alloc d z => some (d, (.ptr · 0), .row z true 0, True)
  | .buildSl d n esz z ps => (fillC z (ps.map fun (o, n, x) => (o, n, x.ev fr))).map fun cs => (d, (.ref · 0 n), .row cs true esz, True)
  | .mksl d esz bytes z len cap => match intV (len.ev fr), intV (cap.ev fr) with
    | some l, some c => some (d, (.ref · 0 l.toNat), .row (List.replicate l.toNat z).flatten true esz, 0 ≤ l ∧ c = l ∧ (bytes : Int) * l ≤ 281474976710656 ∧ l ≤ 9223372036854775807)
    | _, _ => none
  | .mkmap d => some (d, .mp, .map [], True)
  | .sl0 d esz x => match x.ev fr with
    | .ref _ _ _ | .val (.slice none 0 0) => some (d, (.ref · 0 0), .row [] true esz, True)
    | _ => none
  | _ => none

def appV (M : Mem) (esz : Nat) (s : LV) (n : Nat) (new : List LV) : Option (LV × Mem) :=
  if n = 0 then some (s, M) else
  match s with
  | .val (.slice none 0 0) => some (.ref M.length 0 n, M ++ [some (.row new true esz)])
  | .ref t off len => match M[t]? with
    | some (some (.row cs true e)) =>
      if e = esz ∧ off + len * esz ≤ cs.length then some (.ref M.length 0 (len + n), M.set t none ++ [some (.row ((cs.drop off).take (len * esz) ++ new) true esz)]) else none
    | _ => none
  | _ => none

def appS (M : Mem) (esz : Nat) (s : LV) (n : Nat) (new : List LV) (K : LV → Mem → Prop) : Prop :=
  match s with
  | .ref t off len => match M[t]? with
    | some (some (.row cs true e)) => 0 < n ∧ e = esz ∧ off + len * esz ≤ cs.length ∧
        K (.ref t off (len + n)) (M.set t (some (.row (cs.take (off + len * esz) ++ new ++ cs.drop (off + len * esz + new.length)) true e))) ∧
        K (.ref M.length 0 (len + n)) (M ++ [some (.row ((cs.drop off).take (len * esz) ++ new) true esz)])
    | _ => False
  | _ => False

def lenS (v : LV) : Option Nat :=
  match v with
  | .ref _ _ n => some n
  | .val (.slice none 0 0) => some 0
  | _ => none

def putO (fr : Fr) : Option Nat → LV → Fr
  | some d, v => upd fr d v
  | none, _ => fr

def undefL : LV := .tup []

theorem appS.mono {M : Mem} {esz n : Nat} {s : LV} {new : List LV} {K K' : LV → Mem → Prop} (h : appS M esz s n new K) (hk : ∀ v N, K v N → K' v N) : appS M esz s n new K' := by
  unfold appS at *
  split at h
  · split at h
    · exact ⟨h.1, h.2.1, h.2.2.1, hk _ _ h.2.2.2.1, hk _ _ h.2.2.2.2⟩
    · exact h
  · exact h

def EvOp (P : Program) (o : AOp) (fr : Fr) (M : Mem) (K : Fr → Mem → Prop) : Prop :=
  match o with
  | .store n a x => match a.ev fr, (x.ev fr).cells with
    | .ptr t off, some cs => cs.length = n ∧ match setCells M t off cs with
      | some M' => K fr M'
      | none => False
    | _, _ => False
  | .append d esz bytes s x => match lenS (s.ev fr), lenS (x.ev fr), winC M esz (x.ev fr) with
    | some m, some n, some new => (m + n) * bytes ≤ 140737488355328 ∧ m + n ≤ 9223372036854775807 ∧ ((match appV M esz (s.ev fr) n new with
      | some (v, M') => K (upd fr d v) M'
      | none => False) ∨ appS M esz (s.ev fr) n new fun v M' => K (upd fr d v) M')
    | _, _, _ => False
  | .copy d esz s x => match s.ev fr, lenS (x.ev fr), winC M esz (x.ev fr) with
    | .ref t off m, some n, some new => match setCells M t off (new.take (min n m * esz)) with
      | some M' => K (upd fr d (.I ((min n m : Nat) : Int))) M'
      | none => False
    | _, _, _ => False
  | .clear d esz z x => match x.ev fr with
    | .ref t off m => z.length = esz ∧ match setCells M t off (List.replicate m z).flatten with
      | some M' => K (putO fr d undefL) M'
      | none => False
    | _ => False
  | .mupd n m k v => match putM n (m.ev fr) (k.ev fr) (v.ev fr) M with
    | some M' => K fr M'
    | none => False
  | .call d f args => CallsR P f (args.map (·.ev fr)) M fun v N => K (putO fr d v) N
  | .callV d x args => match x.ev fr with
    | .clo f caps => CallsR P f (args.map (·.ev fr) ++ caps.map fun p => .ptr p.1 p.2) M fun v N => K (putO fr d v) N
    | _ => False
  | o => match sop o fr M with
    | some (d, v, c) => c ∧ K (upd fr d v) M
    | none => match aop o fr M with
      | some (d, v, blk, c) => c ∧ K (upd fr d (v M.length)) (M ++ [some blk])
      | none => False

def AOp.dst : AOp → Option Nat
  | .mv d _ | .pick d _ _ _ | .bin d _ _ _ | .eqs d _ _ _ _ | .eqb d _ _ _ | .un d _ _ | .conv d _ _ | .box d _ | .alloc d _ | .build d _ _ | .buildSl d _ _ _ _
  | .load1 d _ | .loadN d _ _ | .nilck d _ | .mkf d _ _ | .mkmap d | .mksl d _ _ _ _ _ | .slS d _ _ _ _ | .sl0 d _ _ | .slA d _ _ _ _ _ | .slT d _ _ _
  | .fieldAddr d _ _ | .field d _ _ _ | .idxS d _ _ _ | .idxA d _ _ _ _ | .index d _ _ _ _ _ | .idxT d _ _ | .lookup d _ _ _ _ _ | .extract d _ _ | .len d _ | .lenT d _
  | .append d _ _ _ _ | .copy d _ _ _ | .mm d _ _ | .any d => some d
  | .call d _ _ | .callV d _ _ | .clear d _ _ _ => d
  | .store _ _ _ | .mupd _ _ _ _ | .bad => none

def EvG (P : Program) (g : GOp) (fr : Fr) (M : Mem) (K : Fr → Mem → Prop) : Prop :=
  match g.1 with
  | none => EvOp P g.2 fr M K
  | some (s, want) => match fr s with
    | .val (.bool b) => (b = want → EvOp P g.2 fr M K) ∧ (b ≠ want → K (putO fr g.2.dst undefL) M)
    | .tup [] => K (putO fr g.2.dst undefL) M
    | _ => False

def EvOps (P : Program) : List GOp → Fr → Mem → (Fr → Mem → Prop) → Prop
  | [], fr, M, K => K fr M
  | g :: r, fr, M, K => EvG P g fr M fun fr M => EvOps P r fr M K

/-! ### Regions that draw their order -/
def AOp.kind : AOp → Nat
  | .store _ _ _ | .append _ _ _ _ _ | .copy _ _ _ _ | .clear _ _ _ _ | .mupd _ _ _ _ | .call _ _ _ | .callV _ _ _ | .bad => 2
  | .box _ _ | .alloc _ _ | .buildSl _ _ _ _ _ | .mksl _ _ _ _ _ _ | .mkmap _ | .sl0 _ _ _ => 1
  | _ => 0

def keyOf (o : AOp) (fr : Fr) : Option Nat :=
  match o with
  | .load1 _ x | .loadN _ _ x | .slA _ _ _ x _ _ => match x.ev fr with | .ptr t _ => some t | _ => none
  | .slS _ _ x _ _ => match x.ev fr with | .ref t _ _ => some t | _ => none
  | .lookup _ _ m _ _ _ => match m.ev fr with | .mp t => some t | _ => none
  | _ => none

def selL (ps : List Nat) (lg : List (Option Nat)) : List Nat := ps.filterMap fun p => (lg[p]?).join

def maskM : List Nat → Mem → Mem
  | [], M => M
  | k :: ks, M => maskM ks (M.set k none)

def unmask (M : Mem) : List Nat → Mem → Mem
  | [], N => N
  | k :: ks, N => unmask M ks (match M[k]? with | some (some b) => N.set k (some b) | _ => N)

def KeepL (ks : List Nat) (M N : Mem) : Prop := ∀ k, k ∈ ks → ∀ b, M[k]? = some (some b) → N[k]? = some (some b)

def EvD (P : Program) : List DOp → Fr → Mem → List (Option Nat) → (Fr → Mem → Prop) → Prop
  | [], fr, M, _, K => K fr M
  | d :: r, fr, M, lg, K =>
    if d.g.2.kind = 0 then EvG P d.g fr M fun fr' M' => EvD P r fr' M' (lg ++ [keyOf d.g.2 fr]) K
    else if d.g.2.kind = 1 then EvG P d.g fr M fun fr' M' => EvD P r fr' M' (lg ++ [if M'.length = M.length then none else some M.length]) K
    else EvG P d.g fr (maskM (selL d.msk lg) M) fun fr' N => KeepL (selL d.unl lg) M (unmask M (selL d.msk lg) N) ∧ EvD P r fr' (unmask M (selL d.msk lg) N) (lg ++ [none]) K

inductive AExit where
  | normal
  | exit (id : Nat)
  | ret

def thenK (K : Fr → Mem → Prop) (Q : AExit → Fr → Mem → Prop) : AExit → Fr → Mem → Prop
  | .normal, fr, M => K fr M
  | e, fr, M => Q e fr M

def blockK (id : Nat) (Q : AExit → Fr → Mem → Prop) : AExit → Fr → Mem → Prop
  | .exit i, fr, M => if i = id then Q .normal fr M else Q (.exit i) fr M
  | e, fr, M => Q e fr M

def EvC (P : Program) : ACode → Fr → Mem → (AExit → Fr → Mem → Prop) → Prop
  | .skip, fr, M, Q => Q .normal fr M
  | .ops l, fr, M, Q => EvOps P l fr M (Q .normal)
  | .draw l, fr, M, Q => EvD P l fr M [] (Q .normal)
  | .seq a b, fr, M, Q => EvC P a fr M (thenK (fun fr M => EvC P b fr M Q) Q)
  | .cond c a b, fr, M, Q => match c.ev fr with
    | .val (.bool t) => (t = true → EvC P a fr M Q) ∧ (t = false → EvC P b fr M Q)
    | _ => False
  | .block id a, fr, M, Q => EvC P a fr M (blockK id Q)
  | .loop a, fr, M, Q => ∃ (I : Nat → Fr → Mem → Prop) (m : Nat), I m fr M ∧
      ∀ m fr M, I m fr M → EvC P a fr M (thenK (fun fr' M' => ∃ m', m' < m ∧ I m' fr' M') Q)
  | .exit id, fr, M, Q => Q (.exit id) fr M
  | .ret, fr, M, Q => Q .ret fr M
  | .bad, _, _, _ => False

/-! ### Results, and what a function's end leaves -/
def LV.flat : LV → Bool
  | .tup _ | .junk => false
  | _ => true

def ARes.ev (fr : Fr) (M : Mem) : ARes → Option LV
  | .tmp t => if (fr t).flat then some (fr t) else none
  | .cell1 t => match fr t with | .ptr t o => getCell M t o | _ => none
  | .cellN t n => match fr t with | .ptr t o => (getCells M t o n).map .agg | _ => none

def resAll (fr : Fr) (M : Mem) : List ARes → Option (List LV)
  | [] => some []
  | r :: rs => match r.ev fr M, resAll fr M rs with
    | some v, some vs => some (v :: vs)
    | _, _ => none

def resV (fr : Fr) (M : Mem) (rs : List ARes) : Option LV :=
  match resAll fr M rs with
  | some [v] => some v
  | some vs => some (.tup vs)
  | none => none

def rn1 (ρ : Nat → Nat) : LV → LV
  | .ref t o n => .ref (ρ t) o n
  | .ptr t o => .ptr (ρ t) o
  | .mp t => .mp (ρ t)
  | .clo f cs => .clo f (cs.map fun p => (ρ p.1, p.2))
  | l => l

def rn0 (ρ : Nat → Nat) : LV → LV
  | .agg cs => .agg (cs.map (rn1 ρ))
  | l => rn1 ρ l

def rn (ρ : Nat → Nat) : LV → LV
  | .tup vs => .tup (vs.map (rn0 ρ))
  | l => rn0 ρ l

def rnB (ρ : Nat → Nat) : Blk → Blk
  | .row cs own e => .row (cs.map (rn1 ρ)) own e
  | .map es => .map (es.map fun p => (rn0 ρ p.1, rn1 ρ p.2))

structure Cmp (M Me : Mem) (ve : LV) (N : Mem) (v : LV) : Prop where
  ex : ∃ ρ : Nat → Nat, (∀ t, t < M.length → ρ t = t) ∧ (∀ t, N.length ≤ t → Me.length ≤ ρ t) ∧
    (∀ t blk, Live N t blk → (Live Me (ρ t) blk ∧ Live M t blk) ∨ (Live Me (ρ t) (rnB ρ blk) ∧ blk.isOwn = true)) ∧
    (∀ t t' blk blk', Live N t blk → Live N t' blk' → ρ t = ρ t' → t = t') ∧ rn ρ v = ve
  len : M.length ≤ N.length

def EvR (P : Program) (fn : AFn) (args : List LV) (M : Mem) (Post : LV → Mem → Prop) : Prop :=
  args.length = fn.np ∧ EvC P fn.body (fun i => args.getD i undefL) M fun e fr Me => (e = .normal ∨ e = .ret) ∧ ∃ ve, resV fr Me fn.res = some ve ∧ Post ve Me

end Go.Ab

namespace Go.Ab
open Go Go.RowKit

section all2
variable {α β : Type} {R S : α → β → Prop}
theorem All2.mono (h : ∀ a b, R a b → S a b) : ∀ {as : List α} {bs : List β}, All2 R as bs → All2 S as bs
  | [], [], _ => trivial
  | _ :: _, _ :: _, hh => ⟨h _ _ hh.1, All2.mono h hh.2⟩
  | [], _ :: _, hh => hh.elim
  | _ :: _, [], hh => hh.elim
theorem All2.length : ∀ {as : List α} {bs : List β}, All2 R as bs → as.length = bs.length
  | [], [], _ => rfl
  | _ :: _, _ :: _, hh => by simp [All2.length hh.2]
  | [], _ :: _, hh => hh.elim
  | _ :: _, [], hh => hh.elim
theorem All2.get : ∀ {as : List α} {bs : List β} {i : Nat} {a : α}, All2 R as bs → as[i]? = some a → ∃ b, bs[i]? = some b ∧ R a b
  | [], _, i, a, _, h => by simp at h
  | x :: as, y :: bs, 0, a, hh, h => by simp at h; subst h; exact ⟨y, by simp, hh.1⟩
  | x :: as, y :: bs, i + 1, a, hh, h => by simpa using All2.get hh.2 (by simpa using h)
  | _ :: _, [], _, _, hh, _ => hh.elim
theorem All2.append : ∀ {as as' : List α} {bs bs' : List β}, All2 R as bs → All2 R as' bs' → All2 R (as ++ as') (bs ++ bs')
  | [], _, [], _, _, h => h
  | _ :: _, _, _ :: _, _, hh, h => ⟨hh.1, All2.append hh.2 h⟩
  | [], _, _ :: _, _, hh, _ => hh.elim
  | _ :: _, _, [], _, hh, _ => hh.elim
theorem All2.take : ∀ (n : Nat) {as : List α} {bs : List β}, All2 R as bs → All2 R (as.take n) (bs.take n)
  | 0, _, _, _ => by simp [All2]
  | n + 1, [], [], _ => trivial
  | n + 1, _ :: _, _ :: _, hh => ⟨hh.1, All2.take n hh.2⟩
  | _ + 1, [], _ :: _, hh => hh.elim
  | _ + 1, _ :: _, [], hh => hh.elim
theorem All2.drop : ∀ (n : Nat) {as : List α} {bs : List β}, All2 R as bs → All2 R (as.drop n) (bs.drop n)
  | 0, _, _, h => h
  | n + 1, [], [], _ => trivial
  | n + 1, _ :: _, _ :: _, hh => All2.drop n hh.2
  | _ + 1, [], _ :: _, hh => hh.elim
  | _ + 1, _ :: _, [], hh => hh.elim
theorem All2.of_get {as : List α} {bs : List β} (hl : as.length = bs.length) (h : ∀ (i : Nat) (a : α) (b : β), as[i]? = some a → bs[i]? = some b → R a b) : All2 R as bs := by
  induction as generalizing bs with
  | nil => cases bs with
    | nil => trivial
    | cons b bs => simp at hl
  | cons a as ih => cases bs with
    | nil => simp at hl
    | cons b bs => exact ⟨h 0 a b (by simp) (by simp), ih (by simpa using hl) fun i x y hx hy => h (i + 1) x y (by simpa using hx) (by simpa using hy)⟩
theorem All2.map_left {γ : Type} {f : γ → α} : ∀ {cs : List γ} {bs : List β}, All2 (fun c b => R (f c) b) cs bs → All2 R (cs.map f) bs
  | [], [], _ => trivial
  | _ :: _, _ :: _, hh => ⟨hh.1, All2.map_left hh.2⟩
  | [], _ :: _, hh => hh.elim
  | _ :: _, [], hh => hh.elim
theorem All2.replicate (n : Nat) {a : α} {b : β} (h : R a b) : All2 R (List.replicate n a) (List.replicate n b) := by
  induction n with
  | zero => trivial
  | succ n ih => exact ⟨h, ih⟩
theorem All2.flatten : ∀ {as : List (List α)} {bs : List (List β)}, All2 (All2 R) as bs → All2 R as.flatten bs.flatten
  | [], [], _ => trivial
  | _ :: _, _ :: _, hh => by simp only [List.flatten_cons]; exact All2.append hh.1 (All2.flatten hh.2)
  | [], _ :: _, hh => hh.elim
  | _ :: _, [], hh => hh.elim
end all2

/-! ### A larger naming -/
def Ext (G G' : Gh) : Prop := ∀ t β, G t = some β → G' t = some β
theorem Ext.refl (G : Gh) : Ext G G := fun _ _ h => h
theorem Ext.trans {G G' G'' : Gh} (h : Ext G G') (k : Ext G' G'') : Ext G G'' := fun t β e => k t β (h t β e)

section ext
variable {G G' : Gh} (hx : Ext G G')
include hx
theorem VRp.ext {t off : Nat} {x : Value} (h : VRp G t off x) : VRp G' t off x := by
  obtain ⟨β, h1, h2⟩ := h; exact ⟨β, hx _ _ h1, h2⟩
theorem VR1.ext {l : LV} {x : Value} (h : VR1 G l x) : VR1 G' l x := by
  cases l <;> simp only [VR1] at h ⊢
  case val v => exact h
  case ref t off n => obtain ⟨β, h1, h2⟩ := h; exact ⟨β, hx _ _ h1, h2⟩
  case ptr t off => exact h.ext hx
  case mp t => obtain ⟨β, h1, h2⟩ := h; exact ⟨β, hx _ _ h1, h2⟩
  case clo f cs => obtain ⟨xs, h1, h2⟩ := h; exact ⟨xs, h1, h2.mono fun _ _ h => h.ext hx⟩
theorem VR0.ext {l : LV} {x : Value} (h : VR0 G l x) : VR0 G' l x := by
  cases l <;> simp only [VR0] at h ⊢
  case agg cs => obtain ⟨xs, h1, h2⟩ := h; exact ⟨xs, h1, h2.mono fun _ _ h => h.ext hx⟩
  all_goals exact h.ext hx
theorem VR.ext {l : LV} {x : Value} (h : VR G l x) : VR G' l x := by
  cases l <;> simp only [VR] at h ⊢
  case tup cs => obtain ⟨xs, h1, h2⟩ := h; exact ⟨xs, h1, h2.mono fun _ _ h => h.ext hx⟩
  all_goals exact h.ext hx
theorem EmbB.ext {w w' : World} {blk : Blk} {β : Base} (hw : β.virt = false → w'.heap[β.b]? = w.heap[β.b]?) (h : EmbB G w blk β) : EmbB G' w' blk β := by
  cases blk with
  | row cs own esz =>
    obtain ⟨h0, h⟩ := h
    refine ⟨h0, ?_⟩
    rcases h with h | ⟨hv, c, e, fz, h1, h2, h3, h4⟩
    · exact .inl h
    · refine .inr ⟨hv, c, e, fz, (hw hv).trans h1, h2, h3, fun j l hj => ?_⟩
      obtain ⟨x, hx1, hx2⟩ := h4 j l hj
      exact ⟨x, hx1, hx2.ext hx⟩
  | map es =>
    obtain ⟨hv, en, cl, h1, h2⟩ := h
    exact ⟨hv, en, cl, (hw hv).trans h1, h2.mono fun _ _ h => ⟨h.1.ext hx, h.2.ext hx⟩⟩
end ext

theorem VR1.vr0 {G : Gh} {l : LV} {x : Value} (h : VR1 G l x) : VR0 G l x := by
  cases l <;> simp only [VR0] <;> first | exact h | exact h.elim
theorem VR0.vr {G : Gh} {l : LV} {x : Value} (h : VR0 G l x) : VR G l x := by
  cases l <;> simp only [VR] <;> first | exact h | exact h.elim
theorem VR1.vr {G : Gh} {l : LV} {x : Value} (h : VR1 G l x) : VR G l x := h.vr0.vr

theorem Live.lt {M : Mem} {t : Nat} {blk : Blk} (h : Live M t blk) : t < M.length := by
  rcases Nat.lt_or_ge t M.length with h' | h'
  · exact h'
  · unfold Live at h; rw [List.getElem?_eq_none h'] at h; cases h

theorem OwnB.lt {G : Gh} {M : Mem} {w : World} (hi : Inv G M w) {b : Nat} (h : OwnB G M b) : b < w.heap.size := by
  obtain ⟨t, blk, β, hl, ho, hg, hv, rfl⟩ := h
  obtain ⟨β', hg', he⟩ := hi.emb t blk hl
  rw [hg] at hg'; cases hg'
  have key : ∀ o, w.heap[β.b]? = some o → β.b < w.heap.size := fun o h => by
    rcases Nat.lt_or_ge β.b w.heap.size with h' | h'
    · exact h'
    · rw [Array.getElem?_eq_none h'] at h; cases h
  cases blk with
  | row cs own esz =>
    rcases he.2 with h | ⟨_, c, e, fz, h1, _⟩
    · rw [hv] at h; cases h.1
    · exact key _ h1
  | map es => obtain ⟨_, en, cl, h1, _⟩ := he; exact key _ h1

theorem Step.ext {G G' : Gh} {M N : Mem} {w w' : World} (hi : Inv G M w) (h : Step G M w G' N w') : Ext G G' := fun t β e => by
  rcases Nat.lt_or_ge t M.length with h' | h'
  · rw [h.gh t h']; exact e
  · rw [hi.top t h'] at e; cases e

theorem Step.refl {G : Gh} {M : Mem} {w : World} : Step G M w G M w :=
  ⟨fun _ _ => rfl, Nat.le_refl _, Nat.le_refl _, rfl, rfl, rfl, fun _ _ _ => rfl, fun _ h => .inr h, fun _ _ h _ => h⟩

theorem Step.trans {G G' G'' : Gh} {M N O : Mem} {w w' w'' : World} (h : Step G M w G' N w') (k : Step G' N w' G'' O w'') : Step G M w G'' O w'' :=
  ⟨fun t ht => (k.gh t (Nat.lt_of_lt_of_le ht h.len)).trans (h.gh t ht), Nat.le_trans h.len k.len, Nat.le_trans h.size k.size, k.os.trans h.os, k.tape.trans h.tape, k.output.trans h.output,
    fun b hb hn => (k.keep b (Nat.lt_of_lt_of_le hb h.size) fun ho => by
      rcases h.own b ho with h1 | h1
      · omega
      · exact hn h1).trans (h.keep b hb hn),
    fun b hb => by
      rcases k.own b hb with h1 | h1
      · exact .inl (Nat.le_trans h.size h1)
      · exact h.own b h1,
    fun t blk hl ho => h.ro t blk (k.ro t blk hl ho) ho⟩

structure But (b : Option Nat) (w w' : World) : Prop where
  size : w.heap.size ≤ w'.heap.size
  os : w'.os = w.os
  tape : w'.tape = w.tape
  output : w'.output = w.output
  keep : ∀ k, k < w.heap.size → some k ≠ b → w'.heap[k]? = w.heap[k]?

theorem But.refl (b : Option Nat) (w : World) : But b w w := ⟨Nat.le_refl _, rfl, rfl, rfl, fun _ _ _ => rfl⟩
theorem But.trans {b : Option Nat} {w w' w'' : World} (h : But b w w') (k : But b w' w'') : But b w w'' :=
  ⟨Nat.le_trans h.size k.size, k.os.trans h.os, k.tape.trans h.tape, k.output.trans h.output, fun i hi hne => (k.keep i (Nat.lt_of_lt_of_le hi h.size) hne).trans (h.keep i hi hne)⟩
theorem But.any {b : Option Nat} {w w' : World} (h : But none w w') : But b w w' := ⟨h.size, h.os, h.tape, h.output, fun k hk _ => h.keep k hk (by simp)⟩
theorem But.alloc (w : World) (o : Obj) : But none w (w.alloc o) := ⟨by simp, rfl, rfl, rfl, fun k hk _ => Below.heap_alloc w o k hk⟩
theorem But.drew (w : World) : But none w w.drew := ⟨Nat.le_refl _, rfl, rfl, rfl, fun _ _ _ => rfl⟩
theorem heap_lt {w : World} {b : Nat} {o : Obj} (h : w.heap[b]? = some o) : b < w.heap.size := by
  rcases Nat.lt_or_ge b w.heap.size with h' | h'
  · exact h'
  · rw [Array.getElem?_eq_none h'] at h; cases h

theorem EmbB.lt {G : Gh} {w : World} {blk : Blk} {β : Base} (h : EmbB G w blk β) (hv : β.virt = false) : β.b < w.heap.size := by
  cases blk with
  | row cs own esz =>
    rcases h.2 with h | ⟨_, c, e, fz, h1, _⟩
    · rw [hv] at h; cases h.1
    · exact heap_lt h1
  | map es => obtain ⟨_, en, cl, h1, _⟩ := h; exact heap_lt h1

theorem Inv.same {G : Gh} {M : Mem} {w w' : World} (hi : Inv G M w) (hb : But none w w') : Inv G M w' ∧ Step G M w G M w' := by
  refine ⟨⟨fun t blk hl => ?_, hi.sep, hi.top⟩, ⟨fun _ _ => rfl, Nat.le_refl _, hb.size, hb.os, hb.tape, hb.output, fun b h _ => hb.keep b h (by simp), fun b h => .inr h, fun _ _ h _ => h⟩⟩
  obtain ⟨β, hg, he⟩ := hi.emb t blk hl
  exact ⟨β, hg, he.ext (Ext.refl G) fun hv => hb.keep _ (he.lt hv) (by simp)⟩

def Gh.put (G : Gh) (t : Nat) (β : Base) : Gh := fun u => if u = t then some β else G u

theorem Gh.put_ext {G : Gh} {t : Nat} {β : Base} (h : G t = none) : Ext G (G.put t β) := fun u γ e => by
  unfold Gh.put
  split
  · rename_i hu; subst hu; rw [h] at e; cases e
  · exact e

theorem live_push {M : Mem} {blk : Blk} {t : Nat} {b' : Blk} (h : Live (M ++ [some blk]) t b') : (t < M.length ∧ Live M t b') ∨ (t = M.length ∧ b' = blk) := by
  unfold Live at *
  rcases Nat.lt_or_ge t M.length with h' | h'
  · rw [List.getElem?_append_left h'] at h; exact .inl ⟨h', h⟩
  · rw [List.getElem?_append_right h'] at h
    have : t - M.length = 0 := by
      rcases Nat.eq_zero_or_pos (t - M.length) with h0 | h0
      · exact h0
      · rw [List.getElem?_eq_none (by simp; omega)] at h; cases h
    rw [this] at h
    simp at h
    exact .inr ⟨by omega, h.symm⟩

theorem Inv.push {G : Gh} {M : Mem} {w w' : World} {blk : Blk} {β : Base} (hi : Inv G M w) (hb : But none w w')
    (hn : β.virt = true ∨ w.heap.size ≤ β.b) (he : EmbB G w' blk β) (hob : blk.isOwn = true) :
    Inv (G.put M.length β) (M ++ [some blk]) w' ∧ Step G M w (G.put M.length β) (M ++ [some blk]) w' := by
  have hx : Ext G (G.put M.length β) := Gh.put_ext (hi.top _ (Nat.le_refl _))
  have hne : ∀ t, t < M.length → (G.put M.length β) t = G t := fun t ht => by unfold Gh.put; rw [if_neg (by omega)]
  have hat : (G.put M.length β) M.length = some β := by simp [Gh.put]
  have old : ∀ t b' γ, Live M t b' → G t = some γ → γ.virt = false → γ.b < w.heap.size := fun t b' γ hl hg hv => by
    obtain ⟨γ', hg', he'⟩ := hi.emb t b' hl
    rw [hg] at hg'; cases hg'
    exact he'.lt hv
  refine ⟨⟨fun t b' hl => ?_, fun t t' b1 b2 γ γ' htt h1 h2 ho hg hg' hv hv' => ?_, fun t ht => ?_⟩,
    ⟨hne, by simp, hb.size, hb.os, hb.tape, hb.output, fun b h _ => hb.keep b h (by simp), fun b h => ?_, fun t b' hl ho => ?_⟩⟩
  · rcases live_push hl with ⟨hlt, hl'⟩ | ⟨rfl, rfl⟩
    · obtain ⟨γ, hg, he'⟩ := hi.emb t b' hl'
      exact ⟨γ, hx _ _ hg, he'.ext hx fun hv => hb.keep _ (he'.lt hv) (by simp)⟩
    · exact ⟨β, hat, he.ext hx fun _ => rfl⟩
  · rcases live_push h1 with ⟨hlt, hl⟩ | ⟨rfl, rfl⟩ <;> rcases live_push h2 with ⟨hlt', hl'⟩ | ⟨rfl, rfl⟩
    · rw [hne _ hlt] at hg; rw [hne _ hlt'] at hg'
      exact hi.sep t t' b1 b2 γ γ' htt hl hl' ho hg hg' hv hv'
    · rw [hne _ hlt] at hg; rw [hat] at hg'; cases hg'
      have := old t b1 γ hl hg hv
      rcases hn with hn | hn
      · rw [hn] at hv'; cases hv'
      · omega
    · rw [hne _ hlt'] at hg'; rw [hat] at hg; cases hg
      have := old t' b2 γ' hl' hg' hv'
      rcases hn with hn | hn
      · rw [hn] at hv; cases hv
      · omega
    · exact absurd rfl htt
  · simp at ht
    unfold Gh.put
    rw [if_neg (by omega)]
    exact hi.top t (by omega)
  · obtain ⟨t, b1, γ, hl, ho, hg, hv, rfl⟩ := h
    rcases live_push hl with ⟨hlt, hl'⟩ | ⟨rfl, rfl⟩
    · rw [hne _ hlt] at hg
      exact .inr ⟨t, b1, γ, hl', ho, hg, hv, rfl⟩
    · rw [hat] at hg; cases hg
      rcases hn with hn | hn
      · rw [hn] at hv; cases hv
      · exact .inl hn
  · rcases live_push hl with ⟨_, hl'⟩ | ⟨_, rfl⟩
    · exact hl'
    · rw [hob] at ho; cases ho

theorem live_set {M : Mem} {t u : Nat} {x : Option Blk} {b' : Blk} (h : Live (M.set t x) u b') : (u = t ∧ x = some b' ∧ t < M.length) ∨ (u ≠ t ∧ Live M u b') := by
  unfold Live at *
  by_cases hu : t = u
  · subst hu
    rw [List.getElem?_set] at h
    simp at h
    obtain ⟨h1, h2⟩ := h
    exact .inl ⟨rfl, h2, h1⟩
  · rw [List.getElem?_set_ne hu] at h
    exact .inr ⟨fun e => hu e.symm, h⟩

theorem Inv.set {G : Gh} {M : Mem} {w w' : World} {t : Nat} {blk blk' : Blk} {β : Base} (hi : Inv G M w) (hl : Live M t blk) (ho : blk.isOwn = true) (ho' : blk'.isOwn = true)
    (hg : G t = some β) (hb : But (some β.b) w w') (he : EmbB G w' blk' β) (hvv : β.virt = false) :
    Inv G (M.set t (some blk')) w' ∧ Step G M w G (M.set t (some blk')) w' := by
  refine ⟨⟨fun u b' hl' => ?_, fun u u' b1 b2 γ γ' huu h1 h2 ho1 hg1 hg2 hv hv' => ?_, fun u hu => hi.top u (by simpa using hu)⟩,
    ⟨fun _ _ => rfl, by simp, hb.size, hb.os, hb.tape, hb.output, fun b h hn => hb.keep b h fun e => ?_, fun b h => ?_, fun u b' hl' ho1 => ?_⟩⟩
  · rcases live_set hl' with ⟨rfl, h1, _⟩ | ⟨hne, hl'⟩
    · cases h1; exact ⟨β, hg, he⟩
    · obtain ⟨γ, hg', he'⟩ := hi.emb u b' hl'
      refine ⟨γ, hg', he'.ext (Ext.refl G) fun hv => hb.keep _ (he'.lt hv) fun e => ?_⟩
      injection e with e
      exact hi.sep t u blk b' β γ (fun e => hne e.symm) hl hl' ho hg hg' hvv hv e.symm
  · rcases live_set h1 with ⟨e1, _, _⟩ | ⟨_, a1⟩ <;> rcases live_set h2 with ⟨e2, _, _⟩ | ⟨_, a2⟩
    · exact absurd (e1.trans e2.symm) huu
    · subst e1; exact hi.sep u u' blk b2 γ γ' huu hl a2 ho hg1 hg2 hv hv'
    · subst e2; exact fun e => hi.sep u' u blk b1 γ' γ (fun e => huu e.symm) hl a1 ho hg2 hg1 hv' hv e.symm
    · exact hi.sep u u' b1 b2 γ γ' huu a1 a2 ho1 hg1 hg2 hv hv'
  · injection e with e; subst e
    exact hn ⟨t, blk, β, hl, ho, hg, hvv, rfl⟩
  · obtain ⟨u, b1, γ, h1, h2, h3, h4, rfl⟩ := h
    rcases live_set h1 with ⟨rfl, h1, _⟩ | ⟨hne, h1⟩
    · rw [hg] at h3; cases h3
      exact .inr ⟨u, blk, β, hl, ho, hg, hvv, rfl⟩
    · exact .inr ⟨u, b1, γ, h1, h2, h3, h4, rfl⟩
  · rcases live_set hl' with ⟨_, h1, _⟩ | ⟨_, h1⟩
    · cases h1; rw [ho'] at ho1; cases ho1
    · exact h1

theorem Inv.kill {G : Gh} {M : Mem} {w : World} (t : Nat) (hi : Inv G M w) : Inv G (M.set t none) w ∧ Step G M w G (M.set t none) w := by
  have old : ∀ {u b'}, Live (M.set t none) u b' → Live M u b' := fun {u b'} h => by
    rcases live_set h with ⟨_, h1, _⟩ | ⟨_, h1⟩
    · cases h1
    · exact h1
  exact ⟨⟨fun u b' h => hi.emb u b' (old h), fun u u' b1 b2 γ γ' huu h1 h2 => hi.sep u u' b1 b2 γ γ' huu (old h1) (old h2), fun u hu => hi.top u (by simpa using hu)⟩,
    ⟨fun _ _ => rfl, by simp, Nat.le_refl _, rfl, rfl, rfl, fun _ _ _ => rfl, fun b ⟨u, b1, γ, h1, h2⟩ => .inr ⟨u, b1, γ, old h1, h2⟩, fun _ _ h _ => old h⟩⟩

theorem Inv.take {G : Gh} {M : Mem} {w w' : World} {t : Nat} {blk blk' : Blk} {β β' : Base} (hi : Inv G M w) (hl : Live M t blk) (ho : blk.isOwn = true)
    (hg : G t = some β) (hb : But (some β.b) w w') (hvv : β.virt = false) (hbb : β'.b = β.b) (he : EmbB G w' blk' β') (hob : blk'.isOwn = true) :
    Inv (G.put M.length β') (M.set t none ++ [some blk']) w' ∧ Step G M w (G.put M.length β') (M.set t none ++ [some blk']) w' := by
  have hx : Ext G (G.put M.length β') := Gh.put_ext (hi.top _ (Nat.le_refl _))
  have hne : ∀ t, t < M.length → (G.put M.length β') t = G t := fun t ht => by unfold Gh.put; rw [if_neg (by omega)]
  have hat : (G.put M.length β') M.length = some β' := by simp [Gh.put]
  have cases_ : ∀ {u b1}, Live (M.set t none ++ [some blk']) u b1 → (u < M.length ∧ u ≠ t ∧ Live M u b1) ∨ (u = M.length ∧ b1 = blk') := fun {u b1} h => by
    rcases live_push h with ⟨h1, h2⟩ | ⟨h1, h2⟩
    · rcases live_set h2 with ⟨_, h3, _⟩ | ⟨h3, h4⟩
      · cases h3
      · exact .inl ⟨by simpa using h1, h3, h4⟩
    · exact .inr ⟨by simpa using h1, h2⟩
  have far : ∀ {u b1 γ}, u ≠ t → Live M u b1 → G u = some γ → γ.virt = false → γ.b ≠ β.b := fun {u b1 γ} h1 h2 h3 h4 e =>
    hi.sep t u blk b1 β γ (fun e => h1 e.symm) hl h2 ho hg h3 hvv h4 e.symm
  refine ⟨⟨fun u b1 h => ?_, fun u u' b1 b2 γ γ' huu h1 h2 ho1 hg1 hg2 hv hv' => ?_, fun u hu => ?_⟩,
    ⟨fun u hu => hne u hu, by simp, hb.size, hb.os, hb.tape, hb.output, fun b h hn => hb.keep b h fun e => ?_, fun b h => ?_, fun u b1 h ho1 => ?_⟩⟩
  · rcases cases_ h with ⟨h1, h2, h3⟩ | ⟨rfl, rfl⟩
    · obtain ⟨γ, hg', he'⟩ := hi.emb u b1 h3
      refine ⟨γ, hx _ _ hg', he'.ext hx fun hv => hb.keep _ (he'.lt hv) fun e => ?_⟩
      injection e with e
      exact far h2 h3 hg' hv e
    · exact ⟨β', hat, he.ext hx fun _ => rfl⟩
  · rcases cases_ h1 with ⟨a1, a2, a3⟩ | ⟨rfl, rfl⟩ <;> rcases cases_ h2 with ⟨c1, c2, c3⟩ | ⟨rfl, rfl⟩
    · rw [hne _ a1] at hg1; rw [hne _ c1] at hg2
      exact hi.sep u u' b1 b2 γ γ' huu a3 c3 ho1 hg1 hg2 hv hv'
    · rw [hne _ a1] at hg1; rw [hat] at hg2; cases hg2
      rw [hbb]; exact far a2 a3 hg1 hv
    · rw [hne _ c1] at hg2; rw [hat] at hg1; cases hg1
      rw [hbb]; exact fun e => far c2 c3 hg2 hv' e.symm
    · exact absurd rfl huu
  · simp at hu
    unfold Gh.put
    rw [if_neg (by omega)]
    exact hi.top u (by omega)
  · injection e with e; subst e
    exact hn ⟨t, blk, β, hl, ho, hg, hvv, rfl⟩
  · obtain ⟨u, b1, γ, h1, h2, h3, h4, rfl⟩ := h
    rcases cases_ h1 with ⟨a1, a2, a3⟩ | ⟨rfl, rfl⟩
    · rw [hne _ a1] at h3
      exact .inr ⟨u, b1, γ, a3, h2, h3, h4, rfl⟩
    · rw [hat] at h3; cases h3
      rw [hbb]
      exact .inr ⟨t, blk, β, hl, ho, hg, hvv, rfl⟩
  · rcases cases_ h with ⟨_, _, h1⟩ | ⟨_, rfl⟩
    · exact h1
    · rw [hob] at ho1; cases ho1

end Go.Ab

namespace Go.Ab
open Go Go.RowKit

def constL : Value → Option LV
  | .agg cs => if cs.toList.all Value.oneCell' then some (.agg (cs.toList.map .val)) else none
  | .tuple _ => none
  | .func fn fi ca => match fn with
    | .func f => if fi.isEmpty && ca.isEmpty then some (.clo f []) else none
    | _ => none
  | v => some (.val v)

def prepX : Operand → Option Opd
  | .tmp t => some (.t t)
  | .const v => (constL v).map .c
  | .func f => some (.c (.clo f []))
  | .global _ => none

def prepXs : List Operand → Option (List Opd)
  | [] => some []
  | x :: r => match prepX x, prepXs r with
    | some y, some ys => some (y :: ys)
    | _, _ => none

def prepXo : Option Operand → Option (Option Opd)
  | none => some none
  | some x => (prepX x).map some

def aggT (P : Program) (t : TypeId) : Bool :=
  match P.underlying t with
  | some (.struct _) | some (.array _ _) => true
  | _ => false

def sizeT (P : Program) (t : TypeId) : Option Nat :=
  match P.underlying t, P.info? t with
  | some _, some i => some i.size
  | _, _ => none

def zeroC (P : Program) (t : TypeId) : Option (List Value) :=
  match P.underlying t, P.info? t with
  | some _, some i => match i.zero with
    | some z => if z.cells.toList.all Value.oneCell' && (z.cells.size == i.size) then some z.cells.toList else none
    | none => none
  | _, _ => none

def placeT (P : Program) (t : TypeId) (i : Nat) : Option (Nat × Nat) :=
  match P.underlying t with
  | some (.struct fs) => match fs[i]? with
    | some f => (sizeT P f.type).map fun n => (f.offset, n)
    | none => none
  | some (.array _ e) => (sizeT P e).map fun n => (i * n, n)
  | _ => none

def partsOK (P : Program) (t : TypeId) : Bool :=
  match P.underlying t with
  | some (.struct fs) => fs.toList.all fun f => (sizeT P f.type).isSome
  | some (.array _ e) => (sizeT P e).isSome
  | _ => false

def prepParts (place : Nat → Option (Nat × Nat)) : List (Nat × Operand) → Option (List (Nat × Nat × Opd))
  | [] => some []
  | (i, x) :: r => match place i, prepX x, prepParts place r with
    | some (o, n), some y, some ys => some ((o, n, y) :: ys)
    | _, _, _ => none

def contig (P : Program) : Nat → List Field → Nat → Bool
  | off, [], n => off == n
  | off, f :: r, n => (f.offset == off) && (f.name != "_") && match sizeT P f.type with
    | some s => contig P (off + s) r n
    | none => false

def leafT (P : Program) : Nat → TypeId → Bool
  | 0, _ => false
  | d + 1, t =>
    match P.underlying t with
    | some (.int _) => sizeT P t == some 1
    | some (.array n e) => leafT P d e && (match sizeT P e with | some s => sizeT P t == some (n * s) | none => false)
    | some (.struct fs) => !P.stoodInHeld t && (fs.toList.all fun f => leafT P d f.type) && (match sizeT P t with | some n => contig P 0 fs.toList n | none => false)
    | _ => false

def zeroSl (P : Program) (e : TypeId) (n : Nat) : Option (List LV) :=
  match P.info? e with
  | some i => if n * i.size = 0 then some [] else match i.zero with
    | some z => if z.cells.toList.all Value.oneCell' && (0 < z.cells.size) then some (((Array.range (n * i.size)).map fun j => z.cells[j % z.cells.size]!).toList.map .val) else none
    | none => none
  | none => none

def constInt0 : Option Operand → Bool
  | some (.const (.int _ n)) => n == 0
  | _ => false

def hasTextB (P : Program) (f : FuncId) : Bool :=
  match P.funcs[f]? with
  | some fn => !fn.body.isNone && !(fn.name == "runtime.NumGoroutine")
  | none => false

def prepCall (P : Program) (c : Call) (d : Option Nat) : Option AOp :=
  match c.callee with
  | .value (.func f) => if hasTextB P f then (prepXs c.args.toList).map (.call d f ·) else none
  | .value x => match prepX x, prepXs c.args.toList with
    | some y, some ys => some (.callV d y ys)
    | _, _ => none
  | .builtin .clear => match c.args.toList, c.argTypes.toList with
    | [x], [tx] => match prepX x, P.underlying tx with
      | some x, some (.slice e) => match zeroC P e with
        | some z => some (.clear d z.length (z.map .val) x)
        | none => none
      | _, _ => none
    | _, _ => none
  | .builtin b => match b, d, c.args.toList, c.argTypes.toList with
    | .len, some d, [x], [tx] => match prepX x, P.underlying tx with
      | some y, some (.slice _) => some (.len d y)
      | some y, some .string => some (.lenT d y)
      | _, _ => none
    | .append, some d, [s, x], [ts, tx] => match prepX s, prepX x, P.underlying ts, P.underlying tx with
      | some s, some x, some (.slice e), some (.slice _) => match P.info? e with
        | some i => if 0 < i.size && ((zeroC P e).isSome) && (ts == tx) then some (.append d i.size i.bytes s x) else none
        | none => none
      | _, _, _, _ => none
    | .copy, some d, [s, x], [ts, tx] => match prepX s, prepX x, P.underlying ts, P.underlying tx with
      | some s, some x, some (.slice e), some (.slice _) => if ts == tx then (sizeT P e).map fun n => .copy d n s x else none
      | _, _, _, _ => none
    | .max, some d, xs, _ => (prepXs xs).map (.mm d true ·)
    | .min, some d, xs, _ => (prepXs xs).map (.mm d false ·)
    | _, _, _, _ => none
  | _ => none

def keyT (P : Program) (t : TypeId) : Option Nat :=
  match P.underlying t with
  | some (.int _) => some 0
  | some (.array n e) => match P.underlying e with
    | some (.int _) => if leafT P 8 t && (sizeT P e == some 1) && (sizeT P t == some n) && (0 < n) then some n else none
    | _ => none
  | _ => none

def zero1 (P : Program) (t : TypeId) : Option Value :=
  match P.info? t with
  | some i => match i.zero with
    | some v => if v.oneCell' then some v else none
    | none => none
  | none => none

def prepO (P : Program) (o : Oper) : Option AOp :=
  match o.op, o.dst with
  | .move x, some d => (prepX x).map (.mv d)
  | .assign x, some d => (prepX x).map (.mv d)
  | .pick c a b, some d => match prepX c, prepX a, prepX b with
    | some c, some a, some b => some (.pick d c a b)
    | _, _, _ => none
  | .alloc t, some d => (zeroC P t).map fun z => .alloc d (z.map .val)
  | .box _ x, some d => (prepX x).map (.box d)
  | .build t ps, some d => match zeroC P t, prepParts (placeT P t) ps.toList with
    | some z, some qs => if partsOK P t then some (.build d (z.map .val) qs) else none
    | _, _ => none
  | .buildSlice t n ps, some d => match P.underlying t with
    | some (.slice e) => match sizeT P e, zeroSl P e n with
      | some s, some z => if n * s ≤ 2 ^ 24 then (prepParts (fun i => some (i * s, s)) ps.toList).map (.buildSl d n s z ·) else none
      | _, _ => none
    | _ => none
  | .load t x, some d => match prepX x, sizeT P t with
    | some x, some n => if aggT P t then some (.loadN d n x) else some (.load1 d x)
    | _, _ => none
  | .store t a x, none => match prepX a, prepX x, sizeT P t with
    | some a, some x, some n => some (.store n a x)
    | _, _, _ => none
  | .nilCheck x, some d => (prepX x).map (.nilck d)
  | .binOp op t x y _, some d => match prepX x, prepX y, P.underlying t with
    | some x, some y, some (.int _) => some (.bin d op x y)
    | some x, some y, some .string => some (.bin d op x y)
    | some x, some y, some .bool => match y with
        | .c (.val (.slice none 0 0)) => none
        | _ => match op with
          | .eql => some (.eqb d false x y)
          | .neq => some (.eqb d true x y)
          | _ => none
    | some x, some y, some (.slice _) => match y with
        | .c (.val (.slice none 0 0)) => match op with
          | .eql => some (.eqb d false x y)
          | .neq => some (.eqb d true x y)
          | _ => none
        | _ => none
    | some x, some y, _ => if leafT P 8 t && aggT P t && !(P.eqGuardType P.depth t) then match op, sizeT P t with
        | .eql, some n => some (.eqs d false n x y)
        | .neq, some n => some (.eqs d true n x y)
        | _, _ => none
      else none
    | _, _, _ => none
  | .unOp op _ x, some d => (prepX x).map (.un d op)
  | .convert s t x, some d => match prepX x, P.underlying s, P.underlying t with
    | some x, some _, some (.int k) => some (.conv d k x)
    | _, _, _ => none
  | .makeFunc (.func f) fi ca, some d => if fi.isEmpty then (prepXs ca.toList).map (.mkf d f ·) else none
  | .makeMap _ none, some d => some (.mkmap d)
  | .lookup t m k ok, some d => match P.underlying t, prepX m, prepX k with
    | some (.map kt et), some m, some k => match keyT P kt, zero1 P et with
      | some n, some z => some (.lookup d n m k z ok)
      | _, _ => none
    | _, _, _ => none
  | .mapUpdate t m k v, none => match P.underlying t, prepX m, prepX k, prepX v with
    | some (.map kt _), some m, some k, some v => (keyT P kt).map fun n => .mupd n m k v
    | _, _, _, _ => none
  | .insert t m k v, none => match P.underlying t, prepX m, prepX k, prepX v with
    | some (.map kt _), some m, some k, some v => (keyT P kt).map fun n => .mupd n m k v
    | _, _, _, _ => none
  | .makeSlice t l c, some d => match P.underlying t with
    | some (.slice e) => match P.info? e, zeroC P e, prepX l, prepX c with
      | some i, some z, some l, some c => if 0 < i.size then some (.mksl d i.size i.bytes (z.map .val) l c) else none
      | _, _, _, _ => none
    | _ => none
  | .slice t x lo hi mx, some d => match P.underlying t, prepX x, prepXo lo, prepXo hi with
    | some (.slice e), some x, some lo', some hi' => match sizeT P e with
      | some s => match mx with
        | none => some (.slS d s x lo' hi')
        | some m => if constInt0 hi && constInt0 (some m) && (lo.isNone || constInt0 lo) then some (.sl0 d s x) else none
      | none => none
    | some (.array n e), some x, some lo', some hi' => match sizeT P e, mx with
      | some s, none => some (.slA d n s x lo' hi')
      | _, _ => none
    | some .string, some x, some lo', some hi' => match mx with
      | none => some (.slT d x lo' hi')
      | _ => none
    | _, _, _, _ => none
  | .fieldAddr s x f, some d => match P.underlying s, prepX x with
    | some (.struct fs), some x => match fs[f]? with
      | some g => match sizeT P g.type with
        | some n => if n = 0 then none else some (.fieldAddr d x g.offset)
        | none => none
      | none => none
    | _, _ => none
  | .field s x f, some d => match P.underlying s, prepX x with
    | some (.struct fs), some x => match fs[f]? with
      | some g => match sizeT P g.type with
        | some n => some (.field d x g.offset (if aggT P g.type then some n else none))
        | none => none
      | none => none
    | _, _ => none
  | .indexAddr t x i, some d => match P.underlying t, prepX x, prepX i with
    | some (.slice e), some x, some i => (sizeT P e).map fun s => .idxS d s x i
    | some (.array n e), some x, some i => (sizeT P e).map fun s => .idxA d n s x i
    | _, _, _ => none
  | .index t x i, some d => match P.underlying t, prepX x, prepX i with
    | some (.array n e), some x, some i => (sizeT P e).map fun s => .index d n s (aggT P e) x i
    | some .string, some x, some i => some (.idxT d x i)
    | _, _, _ => none
  | .extract x i, some d => (prepX x).map (.extract d · i)
  | .call c, d => prepCall P c d
  | _, _ => none

def dstOK (N : Nat) (o : AOp) : Bool :=
  match o.dst with
  | some d => d < N
  | none => true

def prepG (P : Program) (N : Nat) (ops : Array Oper) (o : Oper) : GOp :=
  match prepO P o with
  | some ao => if dstOK N ao && (ao.dst == o.dst) then
      match o.guard with
      | none => (none, ao)
      | some (j, want) => match (ops[j]?).bind (·.dst) with
        | some s => if s < N then (some (s, want), ao) else (none, .bad)
        | none => (none, .bad)
    else (none, .bad)
  | none => (none, .bad)

/-! ### States -/
structure Rel (N : Nat) (G : Gh) (fr : Fr) (M : Mem) (a : Act) (w : World) : Prop where
  size : a.tmps.size = N
  defers : a.defers = []
  slots : ∀ i, VR G (fr i) (a.tmps.getD i undef)
  inv : Inv G M w

theorem constL_vr {G : Gh} {v : Value} {l : LV} (h : constL v = some l) : VR G l v := by
  cases v <;> simp only [constL] at h
  case agg cs =>
    split at h
    · rename_i hc
      cases h
      refine ⟨cs.toList, by simp, ?_⟩
      rw [List.all_eq_true] at hc
      refine All2.map_left (All2.of_get rfl fun i a b ha hb => ?_)
      rw [ha] at hb; cases hb
      exact ⟨rfl, hc a (List.mem_of_getElem? ha)⟩
    · cases h
  case tuple => cases h
  case func fn fi ca =>
    split at h
    · split at h
      · rename_i hc
        cases h
        simp at hc
        obtain ⟨rfl, rfl⟩ := hc
        exact ⟨[], rfl, trivial⟩
      · cases h
    · cases h
  all_goals (cases h; exact ⟨rfl, rfl⟩)

theorem Rel.opd {N : Nat} {G : Gh} {fr : Fr} {M : Mem} {a : Act} {w : World} (h : Rel N G fr M a w) {x : Operand} {y : Opd} (hx : prepX x = some y) : VR G (y.ev fr) (a.eval x) := by
  cases x <;> simp only [prepX] at hx
  case tmp t => cases hx; exact h.slots t
  case const v =>
    cases hc : constL v with
    | none => rw [hc] at hx; cases hx
    | some l => rw [hc] at hx; cases hx; exact constL_vr hc
  case func f => cases hx; exact ⟨[], rfl, trivial⟩
  case global => cases hx

theorem Rel.opds {N : Nat} {G : Gh} {fr : Fr} {M : Mem} {a : Act} {w : World} (h : Rel N G fr M a w) : ∀ {xs : List Operand} {ys : List Opd}, prepXs xs = some ys →
    All2 (VR G) (ys.map (·.ev fr)) (xs.map a.eval)
  | [], ys, hx => by simp only [prepXs] at hx; cases hx; trivial
  | x :: r, ys, hx => by
    simp only [prepXs] at hx
    cases h1 : prepX x with
    | none => rw [h1] at hx; cases hx
    | some y =>
      cases h2 : prepXs r with
      | none => rw [h1, h2] at hx; cases hx
      | some zs => rw [h1, h2] at hx; cases hx; exact ⟨h.opd h1, Rel.opds h h2⟩

theorem Rel.put {N : Nat} {G G' : Gh} {fr : Fr} {M M' : Mem} {a : Act} {w w' : World} (h : Rel N G fr M a w) (hx : Ext G G') (hi : Inv G' M' w') {d : Nat} (hd : d < N) {v : LV} {x : Value} (hv : VR G' v x) :
    Rel N G' (upd fr d v) M' (a.put (some d) x) w' := by
  refine ⟨by simp [Act.put, h.size], h.defers, fun i => ?_, hi⟩
  unfold upd Act.put
  by_cases hid : i = d
  · subst hid
    rw [if_pos rfl]
    simp only [Array.getD_eq_getD_getElem?]
    rw [Array.getElem?_setIfInBounds]
    simp [h.size, hd]
    exact hv
  · rw [if_neg hid]
    simp only [Array.getD_eq_getD_getElem?]
    rw [Array.getElem?_setIfInBounds_ne (fun e => hid e.symm)]
    have := h.slots i
    simp only [Array.getD_eq_getD_getElem?] at this
    exact this.ext hx

theorem Rel.move {N : Nat} {G G' : Gh} {fr : Fr} {M M' : Mem} {a : Act} {w w' : World} (h : Rel N G fr M a w) (hx : Ext G G') (hi : Inv G' M' w') : Rel N G' fr M' a w' :=
  ⟨h.size, h.defers, fun i => (h.slots i).ext hx, hi⟩

theorem vr_undef (G : Gh) : VR G undefL undef := ⟨[], rfl, trivial⟩

def Nx (N : Nat) (G : Gh) (M : Mem) (w : World) (K : Fr → Mem → Prop) (a' : Act) (w' : World) : Prop :=
  ∃ fr' M' G', K fr' M' ∧ Rel N G' fr' M' a' w' ∧ Step G M w G' M' w'

def Snd (P : Program) (N : Nat) (o : Oper) (ao : AOp) : Prop :=
  ∀ (G : Gh) (fr : Fr) (M : Mem) (a : Act) (w : World) (K : Fr → Mem → Prop) (Q : Exit → Act → World → Prop), Rel N G fr M a w → EvOp P ao fr M K → o.wp P a w (Nx N G M w K) Q

theorem wp_of_value {P : Program} {N : Nat} {o : Oper} {G G' : Gh} {fr : Fr} {M M' : Mem} {a : Act} {w w' : World} {K : Fr → Mem → Prop} {Q : Exit → Act → World → Prop} {d : Nat} {v : LV} {x : Value}
    (hr : Rel N G fr M a w) (hd : o.dst = some d) (hdN : d < N) (hrun : (execOp a.eval o).run P w = .ok (.value x) w') (hv : VR G' v x) (hi : Inv G' M' w') (hs : Step G M w G' M' w')
    (hk : K (upd fr d v) M') : o.wp P a w (Nx N G M w K) Q := by
  unfold Oper.wp
  rw [hrun, Oper.upon_value, hd]
  exact ⟨_, _, _, hk, hr.put (hs.ext hr.inv) hi hdN hv, hs⟩

theorem wp_of_skip {P : Program} {N : Nat} {o : Oper} {G G' : Gh} {fr : Fr} {M M' : Mem} {a : Act} {w w' : World} {K : Fr → Mem → Prop} {Q : Exit → Act → World → Prop}
    (hr : Rel N G fr M a w) (hd : o.dst = none) (hrun : (execOp a.eval o).run P w = .ok .skip w') (hi : Inv G' M' w') (hs : Step G M w G' M' w')
    (hk : K fr M') : o.wp P a w (Nx N G M w K) Q := by
  unfold Oper.wp
  rw [hrun, Oper.upon_skip, hd]
  exact ⟨_, _, _, hk, hr.move (hs.ext hr.inv) hi, hs⟩

end Go.Ab

namespace Go.Ab
open Go Go.RowKit

section runs
variable {P : Program} {w : World}

theorem sizeT_run {t : TypeId} {n : Nat} (h : sizeT P t = some n) : (sizeOf t).run P w = .ok n w := by
  unfold sizeT at h
  cases hu : P.underlying t with
  | none => rw [hu] at h; cases h
  | some d =>
    cases hi : P.info? t with
    | none => rw [hu, hi] at h; cases h
    | some i => rw [hu, hi] at h; cases h; simp [sizeOf, typeInfo, hi]

theorem aggT_run {t : TypeId} {n : Nat} (h : sizeT P t = some n) : (isAgg t).run P w = .ok (aggT P t) w := by
  unfold sizeT at h
  cases hu : P.underlying t with
  | none => rw [hu] at h; cases h
  | some d => unfold isAgg aggT; simp only [Sem.run_bind, run_underlying hu, Result.andThen_ok, hu]; cases d <;> rfl

theorem zeroC_run {t : TypeId} {zs : List Value} (h : zeroC P t = some zs) : ∃ z, (zeroValue t).run P w = .ok z w ∧ z.cells.toList = zs ∧ (∀ v ∈ zs, v.oneCell' = true) ∧ sizeT P t = some zs.length ∧
    ∃ i, P.info? t = some i ∧ i.zero = some z ∧ z.cells.size = i.size := by
  unfold zeroC at h
  cases hu : P.underlying t with
  | none => rw [hu] at h; cases h
  | some d =>
    cases hi : P.info? t with
    | none => rw [hu, hi] at h; cases h
    | some i =>
      rw [hu, hi] at h
      simp only at h
      cases hz : i.zero with
      | none => rw [hz] at h; cases h
      | some z =>
        rw [hz] at h
        simp only at h
        split at h
        · rename_i hc
          cases h
          have hc1 : z.cells.toList.all Value.oneCell' = true := by simp only [Bool.and_eq_true] at hc; exact hc.1
          simp at hc
          refine ⟨z, by simp [zeroValue, typeInfo, hi, hz], rfl, fun v hv => (List.all_eq_true.1 hc1) v hv, by simp [sizeT, hu, hi, hc.2], i, rfl, hz, hc.2⟩
        · cases h

theorem addr_add (b o n : Nat) : (⟨b, o, none⟩ : Addr).add n = ⟨b, o + n, none⟩ := by
  unfold Addr.add; split <;> simp_all
end runs

section vr
variable {G : Gh} {x : Value}
theorem vr_val {v : Value} (h : VR G (.val v) x) : x = v ∧ v.oneCell' = true := h
theorem vr_ref {t off n : Nat} (h : VR G (.ref t off n) x) : ∃ β, G t = some β ∧ ∃ a cap, x = .slice a n cap ∧
      ((n = 0 ∧ cap = 0) ∨ (β.virt = false ∧ a = some ⟨β.b, β.o + off, none⟩ ∧ n ≤ cap ∧ off + cap * β.esz ≤ β.tot)) := h
theorem vr_ptr {t off : Nat} (h : VR G (.ptr t off) x) : VRp G t off x := h
theorem vr_mp {t : Nat} (h : VR G (.mp t) x) : ∃ β, G t = some β ∧ β.virt = false ∧ x = .map (some β.b) := h
theorem vr_clo {f : FuncId} {cs : List (Nat × Nat)} (h : VR G (.clo f cs) x) : ∃ xs : List Value, x = .func (.func f) #[] xs.toArray ∧ All2 (fun p y => VRp G p.1 p.2 y) cs xs := h
theorem vr_agg {cs : List LV} (h : VR G (.agg cs) x) : ∃ xs : List Value, x = .agg xs.toArray ∧ All2 (VR1 G) cs xs := h
theorem vr_tup {cs : List LV} (h : VR G (.tup cs) x) : ∃ xs : List Value, x = .tuple xs.toArray ∧ All2 (VR0 G) cs xs := h

theorem VR1.one {l : LV} (h : VR1 G l x) : x.oneCell' = true := by
  cases l <;> simp only [VR1] at h
  case val v => rw [h.1]; exact h.2
  case ref => obtain ⟨_, _, _, _, rfl, _⟩ := h; rfl
  case ptr => obtain ⟨_, _, _, rfl⟩ := h; rfl
  case mp => obtain ⟨_, _, _, rfl⟩ := h; rfl
  case clo => obtain ⟨_, rfl, _⟩ := h; rfl

theorem vr_cells {l : LV} {cs : List LV} (h : VR G l x) (hc : l.cells = some cs) : All2 (VR1 G) cs x.cells.toList := by
  have key : ∀ l', VR1 G l' x → All2 (VR1 G) [l'] x.cells.toList := fun l' h1 => by
    have := h1.one
    cases x <;> first | (simp [Value.oneCell'] at this; done) | exact ⟨h1, trivial⟩
  cases l <;> simp only [LV.cells] at hc <;> cases hc
  case agg => obtain ⟨xs, rfl, h2⟩ := vr_agg h; simpa [Value.cells] using h2
  case val v => exact key (.val v) h
  case ref t o n => exact key (.ref t o n) h
  case ptr t o => exact key (.ptr t o) h
  case mp t => exact key (.mp t) h
  case clo f c => exact key (.clo f c) h
end vr

def EmbA (G : Gh) (M : Mem) (w : World) : Prop := ∀ t blk β, Live M t blk → G t = some β → EmbB G w blk β

theorem Inv.emba {G : Gh} {M : Mem} {w : World} (h : Inv G M w) : EmbA G M w := fun t blk β hl hg => by
  obtain ⟨β', hg', he⟩ := h.emb t blk hl
  rw [hg] at hg'; cases hg'; exact he

theorem getRow_live {M : Mem} {t : Nat} {cs : List LV} (h : getRow M t = some cs) : ∃ own e, Live M t (.row cs own e) := by
  unfold getRow at h
  split at h
  · rename_i cs' own e hm; cases h; exact ⟨own, e, hm⟩
  · cases h

theorem emba_cell {G : Gh} {M : Mem} {w : World} (he : EmbA G M w) {t off : Nat} {l : LV} {x : Value} (hp : VRp G t off x) (hc : getCell M t off = some l) :
    ∃ a u, x = .pointer (some a) ∧ w.cell? a = some u ∧ VR1 G l u := by
  obtain ⟨β, hg, hv, rfl⟩ := hp
  unfold getCell at hc
  cases hr : getRow M t with
  | none => rw [hr] at hc; cases hc
  | some cs =>
    rw [hr] at hc
    simp at hc
    obtain ⟨own, e, hl⟩ := getRow_live hr
    rcases (he t _ β hl hg).2 with h | ⟨_, c, ty, fz, h1, h2, h3, h4⟩
    · rw [hv] at h; cases h.1
    · obtain ⟨u, hu1, hu2⟩ := h4 off l hc
      exact ⟨_, u, rfl, by simp [World.cell?, h1, hu1], hu2⟩

theorem emba_cells {G : Gh} {M : Mem} {w : World} (he : EmbA G M w) {t off n : Nat} {ls : List LV} {x : Value} (hp : VRp G t off x) (hc : getCells M t off n = some ls) :
    ∃ b o us, x = .pointer (some ⟨b, o, none⟩) ∧ us.length = n ∧ (∀ j v, us[j]? = some v → w.cell? ⟨b, o + j, none⟩ = some v) ∧ All2 (VR1 G) ls us := by
  obtain ⟨β, hg, hv, rfl⟩ := hp
  unfold getCells at hc
  cases hr : getRow M t with
  | none => rw [hr] at hc; cases hc
  | some cs =>
    rw [hr] at hc
    simp at hc
    obtain ⟨hle, rfl⟩ := hc
    obtain ⟨own, e, hl⟩ := getRow_live hr
    rcases (he t _ β hl hg).2 with h | ⟨_, c, ty, fz, h1, h2, h3, h4⟩
    · rw [hv] at h; cases h.1
    · have hget : ∀ j, j < n → ∃ u, c[β.o + off + j]? = some u := fun j hj => by
        obtain ⟨u, hu, _⟩ := h4 (off + j) cs[off + j] (List.getElem?_eq_getElem (by omega))
        exact ⟨u, by rw [← hu]; congr 1; omega⟩
      have hat : ∀ (j : Nat) (v : Value), ((List.range n).map fun j => c[β.o + off + j]?.getD undef)[j]? = some v → j < n ∧ v = c[β.o + off + j]?.getD undef := fun j v hj => by
        rw [List.getElem?_map] at hj
        by_cases hjn : j < n
        · rw [List.getElem?_range hjn] at hj; cases hj; exact ⟨hjn, rfl⟩
        · rw [List.getElem?_eq_none (by simp; omega)] at hj; cases hj
      refine ⟨β.b, β.o + off, (List.range n).map fun j => c[β.o + off + j]?.getD undef, rfl, by simp, fun j v hj => ?_, All2.of_get (by simp; omega) fun j l v hl hv => ?_⟩
      · obtain ⟨hk, rfl⟩ := hat j v hj
        obtain ⟨u, hu⟩ := hget j hk
        simp [World.cell?, h1, hu]
      · obtain ⟨hk, rfl⟩ := hat j v hv
        obtain ⟨u, hu⟩ := hget j hk
        rw [List.getElem?_take, if_pos hk, List.getElem?_drop] at hl
        obtain ⟨u', hu1, hu2⟩ := h4 _ l hl
        have : c[β.o + off + j]? = some u' := by rw [← hu1]; congr 1; omega
        rw [this]; exact hu2

section binops
variable {P : Program} {w : World} {G : Gh}

theorem binInt_run {op : BinOp} {k : IntKind} {a b : Int} {v : LV} {c : Prop} (h : binInt op k a b = some (v, c)) (hc : c) (t : TypeId) (ho : op ≠ .shl ∧ op ≠ .shr) :
    ∃ x, (binOp op t (.int k a) (.int k b)).run P w = .ok x w ∧ VR1 G v x := by
  cases op <;> simp only [binInt] at h <;> first
    | exact absurd rfl ho.1
    | exact absurd rfl ho.2
    | (cases h; exact ⟨_, by simp [binOp, Op.intArith, Op.intBits, Op.intCmp]; rfl, rfl, rfl⟩)
    | (cases h; refine ⟨_, ?_, rfl, rfl⟩; simp only [binOp, Op.intDiv, ne_eq, not_true_eq_false, if_false]; rw [if_neg hc]; rfl)
    | (cases h; exact ⟨_, rfl, rfl, rfl⟩)
    | (cases h; refine ⟨_, ?_, rfl, rfl⟩; simp only [binOp, Op.intBits, ne_eq, not_true_eq_false, if_false]; rfl)
    | cases h

theorem binStr_run {op : BinOp} {a b : ByteArray} {v : LV} {c : Prop} (h : binStr op a b = some (v, c)) (hc : c) (t : TypeId) :
    ∃ x, (binOp op t (.string a) (.string b)).run P w = .ok x w ∧ VR1 G v x := by
  cases op <;> simp only [binStr] at h <;> first
    | (cases h; refine ⟨_, ?_, rfl, rfl⟩; simp [binOp, Op.stringOp]; done)
    | (cases h; refine ⟨.string (a ++ b), ?_, rfl, rfl⟩; simp only [binOp, Op.stringOp]; rw [if_neg (by omega)]; rfl)
    | cases h

theorem binV_run {op : BinOp} {lx ly v : LV} {x y : Value} {c : Prop} (h : binV op lx ly = some (v, c)) (hc : c) (hx : VR G lx x) (hy : VR G ly y) (t : TypeId) :
    ∃ z, (binOp op t x y).run P w = .ok z w ∧ VR1 G v z ∧ (∀ xo yo, (eqGuard op t xo yo x y).run P w = .ok () w) := by
  unfold binV at h
  split at h
  · rename_i k a k' b
    obtain ⟨rfl, _⟩ := vr_val hx
    obtain ⟨rfl, _⟩ := vr_val hy
    have hg : ∀ xo yo, (eqGuard op t xo yo (.int k a) (.int k' b)).run P w = .ok () w := fun xo yo => by
      unfold eqGuard; cases op <;> rfl
    split at h
    · cases h
      exact ⟨_, by simp only [binOp, Op.shift]; rw [if_neg (by omega)]; rfl, ⟨rfl, rfl⟩, hg⟩
    · cases h
      exact ⟨_, by simp only [binOp, Op.shift]; rw [if_neg (by omega)]; rfl, ⟨rfl, rfl⟩, hg⟩
    · rename_i ho1 ho2
      split at h
      · rename_i hk; subst hk
        obtain ⟨z, h1, h2⟩ := binInt_run (P := P) (w := w) (G := G) h hc t ⟨fun e => ho1 e, fun e => ho2 e⟩
        exact ⟨z, h1, h2, hg⟩
      · cases h
  · rename_i a b
    obtain ⟨rfl, _⟩ := vr_val hx
    obtain ⟨rfl, _⟩ := vr_val hy
    obtain ⟨z, h1, h2⟩ := binStr_run (P := P) (w := w) (G := G) h hc t
    exact ⟨z, h1, h2, fun xo yo => by unfold eqGuard; cases op <;> rfl⟩
  · cases h

theorem maxV_run {mx : Bool} : ∀ {ls : List LV} {xs : List Value} {v : LV}, maxV mx ls = some v → All2 (VR G) ls xs → ∃ n, v = .I n ∧ ∃ ns : List Int, xs = ns.map (Value.int .i64) ∧ ∃ m r, ns = m :: r ∧ n = r.foldl (fun a b => if mx then max a b else min a b) m
  | [], xs, v, h, _ => by simp [maxV] at h
  | [l], [x], v, h, hh => by
    unfold maxV at h
    split at h
    · rename_i a hl; cases hl; cases h
      obtain ⟨rfl, _⟩ := vr_val hh.1
      exact ⟨a, rfl, [a], rfl, a, [], rfl, rfl⟩
    · rename_i hl; cases hl; simp [maxV] at h
    · cases h
  | l :: l2 :: r, x :: xs, v, h, hh => by
    unfold maxV at h
    split at h
    · rename_i hl; cases hl
    · rename_i a r' hne hl
      cases hl
      split at h
      · rename_i b hm
        cases h
        obtain ⟨rfl, _⟩ := vr_val hh.1
        obtain ⟨n, hn, ns, rfl, m, q, rfl, hq⟩ := maxV_run hm hh.2
        cases hn
        refine ⟨_, rfl, a :: m :: q, rfl, a, m :: q, rfl, ?_⟩
        rw [hq]
        have key : ∀ (q : List Int) (a m : Int), (if mx = true then max a (q.foldl (fun a b => if mx = true then max a b else min a b) m) else min a (q.foldl (fun a b => if mx = true then max a b else min a b) m)) =
            q.foldl (fun a b => if mx = true then max a b else min a b) (if mx = true then max a m else min a m) := by
          intro q
          induction q with
          | nil => intro a m; rfl
          | cons c q ih =>
            intro a m
            simp only [List.foldl_cons]
            rw [ih]
            congr 1
            cases mx <;> simp <;> omega
        exact key q a m
      · cases h
    · cases h
  | [_], [], _, _, hh => hh.elim
  | [_], _ :: _ :: _, _, _, hh => hh.2.elim
  | _ :: _ :: _, [], _, _, hh => hh.elim
end binops

end Go.Ab

namespace Go.Ab
open Go Go.RowKit

def eqW : List Value → List Value → Option Bool
  | [], [] => some true
  | .int k a :: r, .int k' b :: r' => if k = k' then (eqW r r').map ((a == b) && ·) else none
  | _, _ => none

theorem eqW_cons {x y : Value} {xs ys : List Value} {b : Bool} (h : eqW (x :: xs) (y :: ys) = some b) :
    ∃ k a c b2, x = .int k a ∧ y = .int k c ∧ eqW xs ys = some b2 ∧ b = ((a == c) && b2) := by
  unfold eqW at h
  split at h
  · simp at *
  · rename_i h1 h2; cases h1; cases h2
    split at h
    · rename_i hk
      subst hk
      cases h3 : eqW xs ys with
      | none => rw [h3] at h; cases h
      | some c => rw [h3] at h; cases h; exact ⟨_, _, _, c, rfl, rfl, rfl, rfl⟩
    · cases h
  · cases h

theorem eqW_split : ∀ (n : Nat) {xs ys : List Value} {b : Bool}, n ≤ xs.length → eqW xs ys = some b → ∃ b1 b2, eqW (xs.take n) (ys.take n) = some b1 ∧ eqW (xs.drop n) (ys.drop n) = some b2 ∧ b = (b1 && b2)
  | 0, xs, ys, b, _, h => ⟨true, b, by simp [eqW], by simpa using h, by simp⟩
  | n + 1, [], _, _, hl, _ => by simp at hl
  | n + 1, x :: xs, [], b, _, h => by simp [eqW] at h
  | n + 1, x :: xs, y :: ys, b, hl, h => by
    obtain ⟨k, a, c, b2, rfl, rfl, h2, rfl⟩ := eqW_cons h
    obtain ⟨c1, c2, h3, h4, rfl⟩ := eqW_split n (by simpa using hl) h2
    refine ⟨(a == c) && c1, c2, ?_, by simpa using h4, by simp [Bool.and_assoc]⟩
    simp only [List.take_succ_cons]
    simp [eqW, h3]

theorem eqW_length : ∀ {xs ys : List Value} {b : Bool}, eqW xs ys = some b → xs.length = ys.length
  | [], [], _, _ => rfl
  | [], _ :: _, _, h => by simp [eqW] at h
  | _ :: _, [], _, h => by simp [eqW] at h
  | x :: xs, y :: ys, b, h => by obtain ⟨_, _, _, _, _, _, h2, _⟩ := eqW_cons h; simp [eqW_length h2]

section
variable {P : Program} {w : World}

def wrapT (P : Program) (t : TypeId) (cs : List Value) : Value := if aggT P t then .agg cs.toArray else cs.getD 0 undef

theorem part_run {t : TypeId} {n off : Nat} {cs : Array Value} (hs : sizeT P t = some n) (hn : aggT P t = false → n = 1) (hl : off + n ≤ cs.size) :
    (part t cs off).run P w = .ok (wrapT P t ((cs.toList.drop off).take n)) w := by
  unfold part wrapT
  simp only [Sem.run_bind, aggT_run hs, Result.andThen_ok]
  cases ha : aggT P t with
  | true =>
    simp only [if_true, Sem.run_bind, sizeT_run hs, Result.andThen_ok, Sem.run_pure]
    congr 2
    apply Array.ext'
    simp [List.extract]
  | false =>
    have h1 := hn ha
    subst h1
    have hlt : off < cs.size := by omega
    simp [hlt]

theorem leafT_size {d : Nat} {t : TypeId} (h : leafT P d t = true) : ∃ n, sizeT P t = some n ∧ (aggT P t = false → n = 1) := by
  cases d with
  | zero => cases h
  | succ d =>
    unfold leafT at h
    split at h
    · rename_i hu; simp at h; exact ⟨1, h, fun _ => rfl⟩
    · rename_i n e hu
      simp at h
      cases hs : sizeT P e with
      | none => rw [hs] at h; simp at h
      | some s => rw [hs] at h; simp at h; exact ⟨_, h.2, fun ha => by simp [aggT, hu] at ha⟩
    · rename_i fs hu
      simp at h
      cases hs : sizeT P t with
      | none => rw [hs] at h; simp at h
      | some s => exact ⟨s, rfl, fun ha => by simp [aggT, hu] at ha⟩
    · cases h

theorem eqItems {d D : Nat} {e : TypeId} {s : Nat} (hs : sizeT P e = some s) (ha : aggT P e = false → s = 1)
    (ih : ∀ (w : World) (xs ys : List Value) (b : Bool), xs.length = s → eqW xs ys = some b → (Op.equalIn D e (wrapT P e xs) (wrapT P e ys)).run P w = .ok b w)
    (hc : P.cellsOf e = s) : ∀ (m j : Nat) (w : World) (xs ys : List Value) (b : Bool), xs.length = (j + m) * s → eqW (xs.drop (j * s)) (ys.drop (j * s)) = some b → xs.length = ys.length →
      (Op.eqItems D e (P.cellsOf e) xs.toArray ys.toArray (List.range' j m)).run P w = .ok b w
  | 0, j, w, xs, ys, b, hl, he, hxy => by
    rw [Nat.add_zero] at hl
    have h1 : xs.drop (j * s) = [] := List.drop_eq_nil_of_le (by omega)
    have h2 : ys.drop (j * s) = [] := List.drop_eq_nil_of_le (by omega)
    rw [h1, h2] at he
    simp [eqW] at he
    subst he
    simp [Op.eqItems]
  | m + 1, j, w, xs, ys, b, hl, he, hxy => by
    have hlen : (j + (m + 1)) * s = j * s + s + m * s := by rw [Nat.add_mul, Nat.add_mul, Nat.one_mul]; omega
    have hle : j * s + s ≤ xs.length := by rw [hl, hlen]; exact Nat.le_add_right _ _
    obtain ⟨b1, b2, h1, h2, rfl⟩ := eqW_split s (by rw [List.length_drop]; omega) he
    have hx := part_run (P := P) (w := w) (off := j * s) (cs := xs.toArray) hs ha (by rw [List.size_toArray]; exact hle)
    have hy := part_run (P := P) (w := w) (off := j * s) (cs := ys.toArray) hs ha (by rw [List.size_toArray, ← hxy]; exact hle)
    have hq := ih w ((xs.drop (j * s)).take s) ((ys.drop (j * s)).take s) b1 (by simp; omega) h1
    simp only [List.range'_succ, Op.eqItems, hc, Sem.run_bind, hx, hy, Result.andThen_ok, hq]
    cases b1 with
    | false => simp
    | true =>
      have := eqItems (D := D) (d := d) hs ha ih hc m (j + 1) w xs ys b2 (by rw [hl]; congr 1; omega) (by rw [List.drop_drop, List.drop_drop] at h2; rw [Nat.add_mul, Nat.one_mul]; exact h2) hxy
      rw [hc] at this
      simpa using this

theorem eqFlds {D : Nat} {n : Nat} (xs ys : List Value) (hxy : xs.length = ys.length) (hn : xs.length = n) : ∀ (fs : List Field) (off : Nat) (w : World) (b : Bool), contig P off fs n = true →
    (∀ f ∈ fs, (∃ m, sizeT P f.type = some m ∧ (aggT P f.type = false → m = 1)) ∧ ∀ (w : World) (m : Nat) (xs ys : List Value) (b : Bool), sizeT P f.type = some m → xs.length = m → eqW xs ys = some b →
      (Op.equalIn D f.type (wrapT P f.type xs) (wrapT P f.type ys)).run P w = .ok b w) →
    eqW (xs.drop off) (ys.drop off) = some b → (Op.eqFields D xs.toArray ys.toArray fs).run P w = .ok b w
  | [], off, w, b, hc, _, he => by
    simp [contig] at hc
    have h1 : xs.drop off = [] := List.drop_eq_nil_of_le (by omega)
    have h2 : ys.drop off = [] := List.drop_eq_nil_of_le (by omega)
    rw [h1, h2] at he
    simp [eqW] at he
    subst he
    simp [Op.eqFields]
  | f :: fs, off, w, b, hc, hf, he => by
    have h0 := hf f (by simp)
    obtain ⟨⟨m, hm, hma⟩, ih⟩ := h0
    simp only [contig, hm, Bool.and_eq_true, beq_iff_eq, bne_iff_ne, ne_eq] at hc
    obtain ⟨⟨rfl, hname⟩, hc⟩ := hc
    have hle : f.offset + m ≤ n := by
      clear he hf ih
      have key : ∀ (fs : List Field) (o : Nat), contig P o fs n = true → o ≤ n := by
        intro fs
        induction fs with
        | nil => intro o h; simp [contig] at h; omega
        | cons g gs ihh =>
          intro o h
          simp only [contig, Bool.and_eq_true] at h
          obtain ⟨_, h2⟩ := h
          cases hs : sizeT P g.type with
          | none => rw [hs] at h2; cases h2
          | some s => rw [hs] at h2; have := ihh _ h2; omega
      exact key fs _ hc
    obtain ⟨b1, b2, h1, h2, rfl⟩ := eqW_split m (by rw [List.length_drop]; omega) he
    have hx := part_run (P := P) (w := w) (off := f.offset) (cs := xs.toArray) hm hma (by simp; omega)
    have hy := part_run (P := P) (w := w) (off := f.offset) (cs := ys.toArray) hm hma (by simp; omega)
    have hq := ih w m _ _ b1 hm (by simp; omega) h1
    simp only at hx hy
    simp only [Op.eqFields, ne_eq, hname, not_false_eq_true, if_true, Sem.run_bind, hx, hy, Result.andThen_ok, hq]
    cases b1 with
    | false => simp
    | true =>
      have := eqFlds xs ys hxy hn fs (f.offset + m) w b2 hc (fun g hg => hf g (by simp [hg])) (by rw [List.drop_drop, List.drop_drop] at h2; exact h2)
      simpa using this

theorem sizeT_info {t : TypeId} {n : Nat} (h : sizeT P t = some n) : ∃ i, P.info? t = some i ∧ i.size = n ∧ P.cellsOf t = n := by
  unfold sizeT at h
  cases hu : P.underlying t with
  | none => rw [hu] at h; cases h
  | some d =>
    cases hi : P.info? t with
    | none => rw [hu, hi] at h; cases h
    | some i => rw [hu, hi] at h; cases h; exact ⟨i, rfl, rfl, by simp [Program.cellsOf, hi]⟩

theorem eqLeaf : ∀ (d : Nat) {t : TypeId} (w : World) (D n : Nat) (xs ys : List Value) (b : Bool), leafT P d t = true → d ≤ D → sizeT P t = some n → xs.length = n → eqW xs ys = some b →
    (Op.equalIn D t (wrapT P t xs) (wrapT P t ys)).run P w = .ok b w
  | 0, _, _, _, _, _, _, _, h, _, _, _, _ => by cases h
  | d + 1, t, w, D, n, xs, ys, b, h, hD, hs, hl, he => by
    obtain ⟨D, rfl⟩ : ∃ m, D = m + 1 := ⟨D - 1, by omega⟩
    have hly := eqW_length he
    have h' := h
    unfold leafT at h
    split at h
    · rename_i k hu
      simp at h
      rw [hs] at h; cases h
      match xs, ys, hl, hly with
      | [x], [y], _, _ =>
        have ha : aggT P t = false := by simp [aggT, hu]
        simp only [wrapT, ha, Bool.false_eq_true, if_false, List.getD_cons_zero]
        obtain ⟨k', a, c, b2, rfl, rfl, h2, rfl⟩ := eqW_cons he
        simp [eqW] at h2
        subst h2
        rw [run_equalIn_int w D t _ _ _ _ hu]
        simp
    · rename_i m e hu
      simp only [Bool.and_eq_true] at h
      obtain ⟨hle, h⟩ := h
      obtain ⟨s, hse, hsa⟩ := leafT_size hle
      rw [hse, hs] at h
      simp at h
      obtain ⟨i, hi, _, hc⟩ := sizeT_info hse
      have ha : aggT P t = true := by simp [aggT, hu]
      simp only [wrapT, ha, if_true]
      rw [run_equalIn_array w D _ _ hu hi, List.range_eq_range']
      exact eqItems (d := d) hse hsa (fun w xs ys b hl he => eqLeaf d w D s xs ys b hle (by omega) hse hl he) hc m 0 w xs ys b (by simp; omega) (by simpa using he) hly
    · rename_i fs hu
      simp only [Bool.and_eq_true] at h
      obtain ⟨⟨hst, hall⟩, hcg⟩ := h
      rw [hs] at hcg
      simp only at hcg
      have ha : aggT P t = true := by simp [aggT, hu]
      have hfo : P.fieldsOf t = fs := by simp [Program.fieldsOf, hu]
      simp only [wrapT, ha, if_true]
      rw [run_equalIn_struct w D t _ _ (by rw [hfo]; exact hu) (by simpa using hst), hfo]
      rw [List.all_eq_true] at hall
      exact eqFlds xs ys hly hl fs.toList 0 w b hcg (fun f hf => ⟨leafT_size (hall f hf), fun w m xs ys b hm hl he => eqLeaf d w D m xs ys b (hall f hf) (by omega) hm hl he⟩) (by simpa using he)
    · cases h

theorem eqC_W {G : Gh} : ∀ {ls ms : List LV} {xs ys : List Value} {b : Bool}, eqC ls ms = some b → All2 (VR1 G) ls xs → All2 (VR1 G) ms ys → eqW xs ys = some b
  | [], [], [], [], _, h, _, _ => by simpa [eqC, eqW] using h
  | l :: ls, m :: ms, x :: xs, y :: ys, b, h, hx, hy => by
    unfold eqC at h
    split at h
    · simp at *
    · rename_i e1 e2; cases e1; cases e2
      obtain ⟨rfl, _⟩ := vr_val hx.1.vr
      obtain ⟨rfl, _⟩ := vr_val hy.1.vr
      split at h
      · rename_i hk
        cases h3 : eqC ls ms with
        | none => rw [h3] at h; cases h
        | some c => rw [h3] at h; cases h; simp [eqW, hk, eqC_W h3 hx.2 hy.2]
      · cases h
    · cases h
  | [], _ :: _, _, _, _, h, _, _ => by simp [eqC] at h
  | _ :: _, [], _, _, _, h, _, _ => by simp [eqC] at h
  | [], [], _ :: _, _, _, _, hx, _ => hx.elim
  | [], [], [], _ :: _, _, _, _, hy => hy.elim
  | _ :: _, _ :: _, [], _, _, _, hx, _ => hx.elim
  | _ :: _, _ :: _, _ :: _, [], _, _, _, hy => hy.elim

theorem eqV_run {G : Gh} {neq : Bool} {lx ly v : LV} {x y : Value} {n : Nat} (h : eqV neq n lx ly = some v) (hx : VR G lx x) (hy : VR G ly y) {t : TypeId} (hl : leafT P 8 t = true) (ha : aggT P t = true) (hg : P.eqGuardType P.depth t = false)
    (hn : sizeT P t = some n) :
    ∃ z, (binOp (if neq then .neq else .eql) t x y).run P w = .ok z w ∧ VR1 G v z ∧ (∀ xo yo, (eqGuard (if neq then .neq else .eql) t xo yo x y).run P w = .ok () w) := by
  unfold eqV at h
  split at h
  · rename_i ls ms
    obtain ⟨xs, rfl, h1⟩ := vr_agg hx
    obtain ⟨ys, rfl, h2⟩ := vr_agg hy
    split at h
    case isFalse => cases h
    rename_i hln
    cases hc : eqC ls ms with
    | none => rw [hc] at h; cases h
    | some b =>
      rw [hc] at h; cases h
      have := eqLeaf (P := P) 8 w 10000 xs.length xs ys b hl (by omega) (by rw [← h1.length, hln]; exact hn) rfl (eqC_W hc h1 h2)
      simp only [wrapT, ha, if_true] at this
      cases neq
      · exact ⟨_, by simp only [Bool.false_eq_true, if_false]; rw [run_eql_struct, this]; rfl, ⟨rfl, rfl⟩, fun xo yo => run_eqGuard_agg w _ t xo yo _ _ hg⟩
      · exact ⟨_, by simp only [if_true]; rw [run_neq_struct, this]; rfl, ⟨rfl, rfl⟩, fun xo yo => run_eqGuard_agg w _ t xo yo _ _ hg⟩
  · cases h
end
end Go.Ab

namespace Go.Ab
open Go Go.RowKit

section
variable {P : Program}

theorem sem_lawful : LawfulMonad Sem := LawfulMonad.mk' Sem (id_map := fun x => Sem.bind_pure' x) (pure_bind := fun _ _ => rfl) (bind_assoc := fun x f g => Sem.bind_assoc' x f g)

theorem run_mapML {α β : Type} {f : α → Sem β} {g : α → β} {w : World} : ∀ (as : List α), (∀ a ∈ as, (f a).run P w = .ok (g a) w) → (as.mapM f).run P w = .ok (as.map g) w
  | [], _ => by simp
  | a :: as, h => by
    haveI := sem_lawful
    rw [List.mapM_cons]
    simp only [Sem.run_bind, h a (by simp), Result.andThen_ok, run_mapML as fun b hb => h b (by simp [hb])]
    rfl

theorem run_mapM {α β : Type} {f : α → Sem β} {g : α → β} {w : World} (as : Array α) (h : ∀ a ∈ as.toList, (f a).run P w = .ok (g a) w) :
    (as.mapM f).run P w = .ok (as.toList.map g).toArray w := by
  haveI := sem_lawful
  rw [Array.mapM_eq_mapM_toList]
  simp only [Sem.run_map, run_mapML as.toList h, Result.andThen_ok]

theorem foldl_splice : ∀ (vs : List Value) (off k : Nat) (cells : Array Value), off + k + vs.length ≤ cells.size →
    ((vs.zipIdx k).foldl (fun cs (c, j) => cs.setIfInBounds (off + j) c) cells).toList = cells.toList.take (off + k) ++ vs ++ cells.toList.drop (off + k + vs.length)
  | [], off, k, cells, _ => by simp
  | v :: vs, off, k, cells, h => by
    simp only [List.zipIdx_cons, List.foldl_cons]
    rw [foldl_splice vs off (k + 1) _ (by simp at h ⊢; omega)]
    have := list_seg_step cells.toList (off + k) v vs (by simp at h ⊢; omega)
    simp only [Array.toList_setIfInBounds, List.length_cons]
    rw [← this, Nat.add_assoc off k 1]

theorem fill_run {G : Gh} {place : Nat → Option (Nat × Nat)} {fr : Fr} {ρ : Operand → Value} : ∀ {ps : List (Nat × Operand)} {qs : List (Nat × Nat × Opd)} {z cs : List LV} {zv : Array Value},
    prepParts place ps = some qs → (∀ x ∈ ps.map (·.2), ∀ y, prepX x = some y → VR G (y.ev fr) (ρ x)) → fillC z (qs.map fun (o, n, x) => (o, n, x.ev fr)) = some cs → All2 (VR1 G) z zv.toList →
    ∃ cv, Instr.fill place zv (ps.map fun (i, x) => (i, ρ x)) = some cv ∧ All2 (VR1 G) cs cv.toList
  | [], qs, z, cs, zv, hp, _, hf, hz => by
    simp only [prepParts] at hp; cases hp
    simp [fillC] at hf; subst hf
    exact ⟨zv, rfl, hz⟩
  | (i, x) :: ps, qs, z, cs, zv, hp, hop, hf, hz => by
    simp only [prepParts] at hp
    cases h1 : place i with
    | none => rw [h1] at hp; simp at hp
    | some on =>
      obtain ⟨off, n⟩ := on
      cases h2 : prepX x with
      | none => rw [h1, h2] at hp; simp at hp
      | some y =>
        cases h3 : prepParts place ps with
        | none => rw [h1, h2, h3] at hp; simp at hp
        | some qs' =>
          rw [h1, h2, h3] at hp
          simp at hp
          subst hp
          simp only [List.map_cons, fillC] at hf
          cases h4 : (y.ev fr).cells with
          | none => rw [h4] at hf; cases hf
          | some ls =>
            rw [h4] at hf
            simp only at hf
            split at hf
            · rename_i hc
              have hv := vr_cells (hop x (by simp) y h2) h4
              have hl := hv.length
              have hzl := hz.length
              simp only [List.map_cons, Instr.fill, h1]
              have hsz : (ρ x).cells.size = n := by rw [← hc.1, hl]; simp
              rw [if_neg (by simp [hsz]; simp at hzl; omega)]
              have hfold : ((ρ x).cells.zipIdx.foldl (fun cs (c, j) => cs.setIfInBounds (off + j) c) zv).toList = zv.toList.take off ++ (ρ x).cells.toList ++ zv.toList.drop (off + (ρ x).cells.toList.length) := by
                have := foldl_splice (ρ x).cells.toList off 0 zv (by simp [hsz]; simp at hzl; omega)
                rw [← Array.foldl_toList, Array.toList_zipIdx]
                simpa using this
              refine fill_run h3 (fun u hu => hop u (by simp at hu ⊢; exact .inr hu)) hf ?_
              rw [hfold]
              unfold splice
              rw [hl]
              exact ((hz.take off).append hv).append (hz.drop _)
            · cases hf

theorem intV_vr {G : Gh} {l : LV} {x : Value} {n : Int} (h : intV l = some n) (hx : VR G l x) : ∃ k, x = .int k n := by
  unfold intV at h
  split at h
  · cases h; obtain ⟨rfl, _⟩ := vr_val hx; exact ⟨_, rfl⟩
  · cases h

theorem capOf_vr {G : Gh} {fr : Fr} {ρ : Operand → Value} : ∀ {xs : List Operand} {ys : List Opd} {cs : List (Nat × Nat)}, prepXs xs = some ys → (∀ x ∈ xs, ∀ y, prepX x = some y → VR G (y.ev fr) (ρ x)) → capOf ys fr = some cs →
    All2 (fun p y => VRp G p.1 p.2 y) cs (xs.map ρ)
  | [], ys, cs, hp, _, hc => by simp only [prepXs] at hp; cases hp; simp [capOf] at hc; subst hc; trivial
  | x :: xs, ys, cs, hp, hop, hc => by
    simp only [prepXs] at hp
    cases h1 : prepX x with
    | none => rw [h1] at hp; simp at hp
    | some y =>
      cases h2 : prepXs xs with
      | none => rw [h1, h2] at hp; simp at hp
      | some zs =>
        rw [h1, h2] at hp; simp at hp; subst hp
        simp only [capOf] at hc
        have h0 := hop x (by simp) y h1
        split at hc
        · rename_i t off hy
          rw [hy] at h0
          cases h3 : capOf zs fr with
          | none => rw [h3] at hc; cases hc
          | some c' => rw [h3] at hc; cases hc; exact ⟨vr_ptr h0, capOf_vr h2 (fun u hu => hop u (by simp [hu])) h3⟩
        · cases hc

theorem opds_vr {G : Gh} {fr : Fr} {ρ : Operand → Value} : ∀ {xs : List Operand} {ys : List Opd}, prepXs xs = some ys → (∀ x ∈ xs, ∀ y, prepX x = some y → VR G (y.ev fr) (ρ x)) →
    All2 (VR G) (ys.map (·.ev fr)) (xs.map ρ)
  | [], ys, hp, _ => by simp only [prepXs] at hp; cases hp; trivial
  | x :: xs, ys, hp, hop => by
    simp only [prepXs] at hp
    cases h1 : prepX x with
    | none => rw [h1] at hp; simp at hp
    | some y =>
      cases h2 : prepXs xs with
      | none => rw [h1, h2] at hp; simp at hp
      | some zs => rw [h1, h2] at hp; simp at hp; subst hp; exact ⟨hop x (by simp) y h1, opds_vr h2 fun u hu => hop u (by simp [hu])⟩

theorem bound_run {G : Gh} {fr : Fr} {ρ : Operand → Value} {w : World} {n : Nat} {b : Bool} {lo hi : Option Operand} {lo' hi' : Option Opd} {l h : Int} (hlo : prepXo lo = some lo') (hhi : prepXo hi = some hi')
    (hop : ∀ x, (lo = some x ∨ hi = some x) → ∀ y, prepX x = some y → VR G (y.ev fr) (ρ x)) (hb : slBounds fr n lo' hi' = some (l, h)) (h0 : 0 ≤ l) (h1 : l ≤ h) (cap : Nat) (hnc : n ≤ cap) (h2 : h ≤ n) :
    (Instr.sliceBounds b n cap (lo.map ρ) (hi.map ρ) none).run P w = .ok (l.toNat, h.toNat, cap) w := by
  have key : ∀ (x : Operand) (y : Opd) (m : Int) (top : Nat) (code : BoundsCode), prepX x = some y → (lo = some x ∨ hi = some x) → intV (y.ev fr) = some m → 0 ≤ m → m ≤ top → (Instr.sliceBound (ρ x) top code).run P w = .ok m.toNat w :=
    fun x y m top code hx hm hi h0 h1 => by
      obtain ⟨k, hk⟩ := intV_vr hi (hop x hm y hx)
      rw [hk]; exact run_sliceBound w k m top code h0 h1
  unfold slBounds at hb
  unfold Instr.sliceBounds
  cases lo with
  | none =>
    simp only [prepXo] at hlo; cases hlo
    cases hi with
    | none =>
      simp only [prepXo] at hhi; cases hhi
      simp at hb
      obtain ⟨rfl, rfl⟩ := hb
      simp
    | some x =>
      simp only [prepXo] at hhi
      cases hx : prepX x with
      | none => rw [hx] at hhi; cases hhi
      | some y =>
        rw [hx] at hhi; cases hhi
        simp only at hb
        cases hi : intV (y.ev fr) with
        | none => rw [hi] at hb; cases hb
        | some m =>
          rw [hi] at hb
          simp at hb
          obtain ⟨rfl, rfl⟩ := hb
          simp only [Option.map_some, Option.map_none, Sem.run_bind, Sem.run_pure, Result.andThen_ok, key x y m cap _ hx (.inr rfl) hi (by omega) (by omega)]
          rfl
  | some x0 =>
    simp only [prepXo] at hlo
    cases hx0 : prepX x0 with
    | none => rw [hx0] at hlo; cases hlo
    | some y0 =>
      rw [hx0] at hlo; cases hlo
      simp only at hb
      cases hi0 : intV (y0.ev fr) with
      | none => rw [hi0] at hb; simp at hb
      | some m0 =>
        rw [hi0] at hb
        cases hi with
        | none =>
          simp only [prepXo] at hhi; cases hhi
          simp at hb
          obtain ⟨rfl, rfl⟩ := hb
          simp only [Option.map_some, Option.map_none, Sem.run_bind, Sem.run_pure, Result.andThen_ok, key x0 y0 m0 n _ hx0 (.inl rfl) hi0 (by omega) (by omega)]
          simp
        | some x =>
          simp only [prepXo] at hhi
          cases hx : prepX x with
          | none => rw [hx] at hhi; cases hhi
          | some y =>
            rw [hx] at hhi; cases hhi
            simp only at hb
            cases hi : intV (y.ev fr) with
            | none => rw [hi] at hb; cases hb
            | some m =>
              rw [hi] at hb
              simp at hb
              obtain ⟨rfl, rfl⟩ := hb
              simp only [Option.map_some, Option.map_none, Sem.run_bind, Sem.run_pure, Result.andThen_ok, key x y m cap _ hx (.inr rfl) hi (by omega) (by omega), key x0 y0 m0 m.toNat _ hx0 (.inl rfl) hi0 (by omega) (by omega)]

end
end Go.Ab

namespace Go.Ab
open Go Go.RowKit

structure Rd0 (G : Gh) (fr : Fr) (M : Mem) (ρ : Operand → Value) (w : World) (xs : Array Operand) : Prop where
  op : ∀ x ∈ xs.toList, ∀ y, prepX x = some y → VR G (y.ev fr) (ρ x)
  mem : EmbA G M w

section
variable {P : Program} {G : Gh} {fr : Fr} {M : Mem} {ρ : Operand → Value} {w : World} {d : Nat} {v : LV} {c : Prop} {ao : AOp}

theorem map_some' {α β : Type} {x : Option α} {f : α → β} {r : β} (h : x.map f = some r) : ∃ y, x = some y ∧ r = f y := by
  cases x with
  | none => cases h
  | some y => cases h; exact ⟨y, rfl, rfl⟩

def SndS (P : Program) (G : Gh) (M : Mem) (ρ : Operand → Value) (w : World) (o : Oper) (d : Nat) (v : LV) : Prop :=
  ∃ x, o.dst = some d ∧ (execOp ρ o).run P w = .ok (.value x) w ∧ VR G v x

theorem snd_load {t : TypeId} {x : Operand} {dst : Nat} {ty : TypeId} {pos : String} {after : Array Edge} {guard : Option (Nat × Bool)}
    (hp : prepO P ⟨some dst, .load t x, ty, pos, after, guard⟩ = some ao) (hs : sop ao fr M = some (d, v, c)) (h : Rd0 G fr M ρ w #[x]) :
    SndS P G M ρ w ⟨some dst, .load t x, ty, pos, after, guard⟩ d v := by
  simp only [prepO] at hp
  cases h1 : prepX x with
  | none => rw [h1] at hp; simp at hp
  | some y =>
    cases h2 : sizeT P t with
    | none => rw [h1, h2] at hp; simp at hp
    | some n =>
      rw [h1, h2] at hp
      simp only at hp
      have hv := h.op x (by simp) y h1
      have hagg := aggT_run (w := w) h2
      split at hp
      · rename_i ha
        cases hp
        simp only [sop] at hs
        split at hs
        · rename_i t' off hy
          obtain ⟨cs, hc, he⟩ := map_some' hs
          cases he
          rw [hy] at hv
          obtain ⟨b, o, us, hx, hl, hcell, hall⟩ := emba_cells h.mem (vr_ptr hv) hc
          refine ⟨.agg us.toArray, rfl, ?_, ⟨us, rfl, hall⟩⟩
          simp only [execOp, Sem.run_bind, Instr.loadAt, hx, Instr.sureAddr, Sem.run_pure, Result.andThen_ok, loadVar, hagg, ha, if_true, sizeT_run h2]
          have := run_loadCells_list (P := P) w ⟨b, o, none⟩ us (fun j u hj => by rw [addr_add]; exact hcell j u hj)
          rw [hl] at this
          simp only [this, Result.andThen_ok]
        · cases hs
      · rename_i ha
        cases hp
        simp only [sop] at hs
        split at hs
        · rename_i t' off hy
          obtain ⟨u, hc, he⟩ := map_some' hs
          cases he
          rw [hy] at hv
          obtain ⟨a, u', hx, hcell, hvr⟩ := emba_cell h.mem (vr_ptr hv) hc
          refine ⟨u', rfl, ?_, hvr.vr⟩
          simp only [execOp, Sem.run_bind, Instr.loadAt, hx, Instr.sureAddr, Sem.run_pure, Result.andThen_ok, loadVar, hagg, Bool.not_eq_true] at ha ⊢
          simp only [ha, Bool.false_eq_true, if_false, run_load]
          rw [hcell]
          rfl
        · cases hs

theorem snd_build {t : TypeId} {ps : Array (Nat × Operand)} {dst : Nat} {ty : TypeId} {pos : String} {after : Array Edge} {guard : Option (Nat × Bool)}
    (hp : prepO P ⟨some dst, .build t ps, ty, pos, after, guard⟩ = some ao) (hs : sop ao fr M = some (d, v, c)) (h : Rd0 G fr M ρ w (ps.toList.map (·.2)).toArray) :
    SndS P G M ρ w ⟨some dst, .build t ps, ty, pos, after, guard⟩ d v := by
  simp only [prepO] at hp
  cases h1 : zeroC P t with
  | none => rw [h1] at hp; simp at hp
  | some z =>
    cases h2 : prepParts (placeT P t) ps.toList with
    | none => rw [h1, h2] at hp; simp at hp
    | some qs =>
      rw [h1, h2] at hp
      simp only at hp
      split at hp
      · rename_i ha
        cases hp
        simp only [sop] at hs
        obtain ⟨cs, hc, he⟩ := map_some' hs
        cases he
        obtain ⟨zv, hz1, hz2, hz3, hz4, i, hi, hiz, hsz⟩ := zeroC_run (w := w) h1
        have hz : All2 (VR1 G) (z.map .val) zv.cells.toList := by
          rw [hz2]
          exact All2.map_left (All2.of_get rfl fun i a b e1 e2 => by rw [e1] at e2; cases e2; exact ⟨rfl, hz3 _ (List.mem_of_getElem? e1)⟩)
        obtain ⟨cv, hf1, hf2⟩ := fill_run h2 (fun x hx => h.op x (by simpa using hx)) hc hz
        refine ⟨.agg cv, rfl, ?_, ⟨cv.toList, by simp, hf2⟩⟩
        have hpm : (ps.map fun (i, x) => (i, ρ x)).toList = ps.toList.map fun (i, x) => (i, ρ x) := by simp
        simp only [execOp, Sem.run_bind, Instr.build, hz1, Result.andThen_ok]
        unfold partsOK at ha
        cases hu : P.underlying t with
        | none => rw [hu] at ha; cases ha
        | some dd =>
          rw [hu] at ha
          cases dd <;> first | (simp at ha; done) | skip
          case array n e =>
            simp only at ha
            obtain ⟨s, hse⟩ := Option.isSome_iff_exists.1 ha
            simp only [run_underlying hu, Result.andThen_ok, Sem.run_bind, sizeT_run hse]
            have : (placeT P t) = fun i => some (i * s, s) := by funext i; simp [placeT, hu, hse]
            rw [this] at hf1
            rw [hpm, hf1]
            rfl
          case struct fs =>
            simp only [List.all_eq_true] at ha
            have hm := run_mapM (P := P) (w := w) (f := fun f : Field => do pure (f.offset, ← sizeOf f.type)) (g := fun f => (f.offset, (sizeT P f.type).getD 0)) fs (fun f hf => by
              obtain ⟨n, hn⟩ := Option.isSome_iff_exists.1 (ha f hf)
              simp only [Sem.run_bind, sizeT_run hn, Result.andThen_ok, Sem.run_pure, hn, Option.getD_some])
            simp only [run_underlying hu, Result.andThen_ok, Sem.run_bind, hm]
            have : (placeT P t) = fun i => ((fs.toList.map fun f => (f.offset, (sizeT P f.type).getD 0)).toArray)[i]? := by
              funext i
              simp only [placeT, hu]
              simp only [List.getElem?_toArray, List.getElem?_map, Array.getElem?_toList]
              cases hf : fs[i]? with
              | none => simp
              | some f =>
                obtain ⟨n, hn⟩ := Option.isSome_iff_exists.1 (ha f (Array.mem_toList_iff.2 (Array.mem_of_getElem? hf)))
                simp [hn]
            rw [this] at hf1
            rw [hpm, hf1]
            rfl
      · cases hp
end
end Go.Ab

namespace Go.Ab
open Go Go.RowKit

section
variable {P : Program} {G : Gh} {fr : Fr} {M : Mem} {ρ : Operand → Value} {w : World} {d : Nat} {v : LV} {c : Prop} {ao : AOp}

theorem getEsz_live {M : Mem} {t e : Nat} (h : getEsz M t = some e) : ∃ cs own, Live M t (.row cs own e) := by
  unfold getEsz at h
  split at h
  · rename_i cs own e' hm; cases h; exact ⟨cs, own, hm⟩
  · cases h

theorem vr1_val {v : Value} (h : v.oneCell' = true) : VR G (.val v) v := ⟨rfl, h⟩

theorem snd_idx {t : TypeId} {x i : Operand} {dst : Nat} {ty : TypeId} {pos : String} {after : Array Edge} {guard : Option (Nat × Bool)}
    (hp : prepO P ⟨some dst, .indexAddr t x i, ty, pos, after, guard⟩ = some ao) (hs : sop ao fr M = some (d, v, c)) (hc : c) (h : Rd0 G fr M ρ w #[x, i]) :
    SndS P G M ρ w ⟨some dst, .indexAddr t x i, ty, pos, after, guard⟩ d v := by
  simp only [prepO] at hp
  cases hx : prepX x with
  | none => rw [hx] at hp; cases hu : P.underlying t <;> rw [hu] at hp <;> simp at hp
  | some y =>
    cases hi : prepX i with
    | none => rw [hx, hi] at hp; cases hu : P.underlying t <;> rw [hu] at hp <;> simp at hp
    | some k =>
      rw [hx, hi] at hp
      have hvx := h.op x (by simp) y hx
      have hvi := h.op i (by simp) k hi
      split at hp
      · rename_i e y' k' hu e1 e2
        cases e1; cases e2
        obtain ⟨s, hse, rfl⟩ := map_some' hp
        simp only [sop] at hs
        split at hs
        · rename_i t' off n m hy hm
          cases hs
          rw [hy] at hvx
          obtain ⟨kk, hk⟩ := intV_vr hm hvi
          obtain ⟨β, hg, a, cap, hxv, hor⟩ := vr_ref hvx
          rcases hor with ⟨h1, _⟩ | ⟨hv, rfl, hle, _⟩
          · omega
          · refine ⟨.pointer (some ⟨β.b, β.o + (off + m.toNat * s), none⟩), rfl, ?_, ⟨β, hg, hv, rfl⟩⟩
            simp only [execOp, Sem.run_bind, Instr.indexAt, hk, asIntOf, Sem.run_pure, Result.andThen_ok, run_underlying hu, hxv, hc, and_self, if_true, sizeT_run hse, addr_add, Nat.add_assoc]
        · cases hs
      · rename_i n e y' k' hu e1 e2
        cases e1; cases e2
        obtain ⟨s, hse, rfl⟩ := map_some' hp
        simp only [sop] at hs
        split at hs
        · rename_i t' off m hy hm
          cases hs
          rw [hy] at hvx
          obtain ⟨kk, hk⟩ := intV_vr hm hvi
          obtain ⟨β, hg, hv, hxv⟩ := vr_ptr hvx
          refine ⟨.pointer (some ⟨β.b, β.o + (off + m.toNat * s), none⟩), rfl, ?_, ⟨β, hg, hv, rfl⟩⟩
          simp only [execOp, Sem.run_bind, Instr.indexAt, hk, asIntOf, Sem.run_pure, Result.andThen_ok, run_underlying hu, hxv, Instr.sureAddr, hc, and_self, if_true, sizeT_run hse, addr_add, Nat.add_assoc]
        · cases hs
      · cases hp

theorem snd_slice {t : TypeId} {x : Operand} {lo hi mx : Option Operand} {dst : Nat} {ty : TypeId} {pos : String} {after : Array Edge} {guard : Option (Nat × Bool)}
    (hp : prepO P ⟨some dst, .slice t x lo hi mx, ty, pos, after, guard⟩ = some ao) (hs : sop ao fr M = some (d, v, c)) (hc : c)
    (h : ∀ u, (u = x ∨ lo = some u ∨ hi = some u) → ∀ y, prepX u = some y → VR G (y.ev fr) (ρ u)) (hm : EmbA G M w) :
    SndS P G M ρ w ⟨some dst, .slice t x lo hi mx, ty, pos, after, guard⟩ d v := by
  simp only [prepO] at hp
  split at hp
  · rename_i e y lo' hi' hu hx hlo hhi
    have hvx := h x (.inl rfl) y hx
    cases hse : sizeT P e with
    | none => rw [hse] at hp; cases hp
    | some s =>
      rw [hse] at hp
      simp only at hp
      cases mx with
      | some m => simp only at hp; split at hp <;> cases hp; simp [sop] at hs
      | none =>
        simp only at hp
        cases hp
        simp only [sop] at hs
        split at hs
        · rename_i hy
          obtain ⟨lh, hb, he⟩ := map_some' hs
          obtain ⟨l, hh⟩ := lh
          dsimp only at he
          cases he
          rw [hy] at hvx
          obtain ⟨hxv, _⟩ := vr_val hvx
          obtain ⟨rfl, rfl⟩ := hc
          have hbd := bound_run (b := true) (w := w) (ρ := ρ) (P := P) hlo hhi (fun u hu => h u (.inr hu)) hb (by omega) (by omega) 0 (by omega) (by omega)
          refine ⟨.slice none 0 0, rfl, ?_, ⟨rfl, rfl⟩⟩
          simp only [execOp, Sem.run_bind, Instr.sliceAt, run_underlying hu, Result.andThen_ok, Instr.slice, hxv, Option.map_none, hbd, sizeT_run hse]
          rfl
        · rename_i t' off n hy
          split at hs
          case isFalse => cases hs
          rename_i hez
          obtain ⟨lh, hb, he⟩ := map_some' hs
          obtain ⟨l, hh⟩ := lh
          dsimp only at he
          cases he
          rw [hy] at hvx
          obtain ⟨β, hg, a, cap, hxv, hor⟩ := vr_ref hvx
          obtain ⟨cs, own, hlive⟩ := getEsz_live hez
          have hbe : β.esz = s := (hm _ _ _ hlive hg).1
          have hnc : n ≤ cap := by rcases hor with ⟨h1, h2⟩ | ⟨_, _, h3, _⟩ <;> omega
          have hbd := bound_run (b := true) (w := w) (ρ := ρ) (P := P) hlo hhi (fun u hu => h u (.inr hu)) hb hc.1 hc.2.1 cap hnc hc.2.2
          have hrun : (execOp ρ ⟨some d, .slice t x lo hi none, ty, pos, after, guard⟩).run P w = .ok (.value (.slice (if cap = l.toNat then a else a.map (·.add (l.toNat * s))) (hh.toNat - l.toNat) (cap - l.toNat))) w := by
            simp only [execOp, Sem.run_bind, Instr.sliceAt, run_underlying hu, Result.andThen_ok, Instr.slice, hxv, Option.map_none, hbd, sizeT_run hse]
            rfl
          refine ⟨_, rfl, hrun, ⟨β, hg, _, _, rfl, ?_⟩⟩
          by_cases hcl : cap = l.toNat
          · left; omega
          · rcases hor with ⟨h1, h2⟩ | ⟨hv, rfl, h3, h4⟩
            · omega
            · right
              rw [if_neg hcl]
              refine ⟨hv, ?_, by omega, ?_⟩
              · simp [addr_add, Nat.add_assoc]
              · rw [hbe] at h4 ⊢
                have : cap = l.toNat + (cap - l.toNat) := by omega
                rw [this, Nat.add_mul] at h4
                omega
        · cases hs
  · rename_i n e y lo' hi' hu hx hlo hhi
    have hvx := h x (.inl rfl) y hx
    cases hse : sizeT P e with
    | none => rw [hse] at hp; cases hp
    | some s =>
      rw [hse] at hp
      cases mx with
      | some m => cases hp
      | none =>
        simp only at hp
        cases hp
        simp only [sop] at hs
        split at hs
        · rename_i t' off hy
          split at hs
          case isFalse => cases hs
          rename_i hez
          obtain ⟨lh, hb, he⟩ := map_some' hs
          obtain ⟨l, hh⟩ := lh
          dsimp only at he
          cases he
          rw [hy] at hvx
          obtain ⟨β, hg, hv, hxv⟩ := vr_ptr hvx
          obtain ⟨cs, own, hlive⟩ := getEsz_live hez.1
          have hemb := hm _ _ _ hlive hg
          have hbe : β.esz = 0 := hemb.1
          have hbd := bound_run (b := false) (w := w) (ρ := ρ) (P := P) hlo hhi (fun u hu => h u (.inr hu)) hb hc.1 hc.2.1 n (Nat.le_refl _) hc.2.2
          have hrun : (execOp ρ ⟨some d, .slice t x lo hi none, ty, pos, after, guard⟩).run P w =
              .ok (.value (.slice (some (if n = l.toNat then ⟨β.b, β.o + off, none⟩ else (⟨β.b, β.o + off, none⟩ : Addr).add (l.toNat * s))) (hh.toNat - l.toNat) (n - l.toNat))) w := by
            simp only [execOp, Sem.run_bind, Instr.sliceAt, run_underlying hu, Result.andThen_ok, hxv, Instr.sureAddr, Sem.run_pure, Option.map_none, hbd, sizeT_run hse]
          refine ⟨_, rfl, hrun, ⟨β, hg, _, _, rfl, ?_⟩⟩
          by_cases hcl : n = l.toNat
          · left; omega
          · right
            rw [if_neg hcl]
            refine ⟨hv, by simp [addr_add, Nat.add_assoc], by omega, ?_⟩
            rw [hbe]
            obtain ⟨cells, hcells⟩ := Option.isSome_iff_exists.1 hez.2
            unfold getCells getRow at hcells
            unfold Live at hlive
            rw [hlive] at hcells
            simp at hcells
            rcases hemb.2 with hh' | ⟨_, _, _, _, _, _, h5, _⟩
            · rw [hv] at hh'; cases hh'.1
            · have : l.toNat * s ≤ n * s := Nat.mul_le_mul_right _ (by omega)
              omega
        · cases hs
  · rename_i y lo' hi' hu hx hlo hhi
    have hvx := h x (.inl rfl) y hx
    cases mx with
    | some m => cases hp
    | none =>
      simp only at hp
      cases hp
      simp only [sop] at hs
      split at hs
      · rename_i s hy
        obtain ⟨lh, hb, he⟩ := map_some' hs
        obtain ⟨l, hh⟩ := lh
        dsimp only at he
        cases he
        rw [hy] at hvx
        obtain ⟨hxv, _⟩ := vr_val hvx
        have hbd := bound_run (b := false) (w := w) (ρ := ρ) (P := P) hlo hhi (fun u hu => h u (.inr hu)) hb hc.1 hc.2.1 s.size (Nat.le_refl _) hc.2.2
        refine ⟨_, rfl, ?_, ⟨rfl, rfl⟩⟩
        simp only [execOp, Sem.run_bind, Instr.sliceAt, run_underlying hu, Result.andThen_ok, Instr.slice, hxv, Option.map_none, Option.isSome_none, Bool.false_eq_true, if_false, hbd, Sem.run_pure]
      · cases hs
  · cases hp
end
end Go.Ab

namespace Go.Ab
open Go Go.RowKit

section
variable {P : Program} {G : Gh} {fr : Fr} {M : Mem} {ρ : Operand → Value} {w : World}
variable {dst : Nat} {ty : TypeId} {pos : String} {after : Array Edge} {guard : Option (Nat × Bool)}

theorem sameBits_int (n : Nat) (k : IntKind) (a : Int) : Instr.sameBits n (.int k a) (.int k a) = true := by
  cases n <;> simp [Instr.sameBits]
theorem eqW_bits : ∀ {xs ys : List Value}, eqW xs ys = some true → xs = ys ∧ ((xs.zip ys).all fun (x, y) => Instr.sameBits 9999 x y) = true
  | [], [], _ => ⟨rfl, rfl⟩
  | [], _ :: _, h => by cases eqW_length h
  | _ :: _, [], h => by cases eqW_length h
  | x :: xs, y :: ys, h => by
    obtain ⟨k, a, b, c, rfl, rfl, h2, h3⟩ := eqW_cons h
    simp only [Bool.true_eq, Bool.and_eq_true, beq_iff_eq] at h3
    obtain ⟨rfl, rfl⟩ := h3
    obtain ⟨h4, h5⟩ := eqW_bits h2
    subst h4
    exact ⟨rfl, by simp only [List.zip_cons_cons, List.all_cons, h5, Bool.and_true]; exact sameBits_int _ _ _⟩

def Found (G : Gh) (l : LV) (x : Value) (es : List (LV × LV)) (en : List MapEntry) (i0 : Nat) : Option LV → Option (Nat × Value) → Prop
  | none, none => ∀ v, putE l v es = some (es ++ [(l, v)])
  | some u, some (i, y) => ∃ j e, i = i0 + j ∧ en[j]? = some e ∧ e.val = y ∧ VR1 G u y ∧ e.key = x ∧ Instr.sameBits 10000 x x = true ∧ ∀ v, putE l v es = some (es.set j (l, v))
  | _, _ => False

theorem Found.skip {l : LV} {x : Value} {e : LV × LV} {es : List (LV × LV)} {a : MapEntry} {en : List MapEntry} {i0 : Nat} {r : Option LV} {q : Option (Nat × Value)} (h : Found G l x es en (i0 + 1) r q) (hk : keyEq l e.1 = some false) : Found G l x (e :: es) (a :: en) i0 r q := by
  unfold Found at h ⊢
  split at h
  · intro v; unfold putE; rw [hk]; simp only [h v]; rfl
  · obtain ⟨j, e', h1, h2, h3, h4, h5, h6, h7⟩ := h
    exact ⟨j + 1, e', by omega, by simpa using h2, h3, h4, h5, h6, fun v => by unfold putE; rw [hk]; simp only [h7 v]; rfl⟩
  · exact h.elim

theorem Found.here {l : LV} {x : Value} {e : LV × LV} {es : List (LV × LV)} {a : MapEntry} {en : List MapEntry} {i0 : Nat} (hk : keyEq l e.1 = some true) (hv : VR1 G e.2 a.val) (hx : a.key = x) (hb : Instr.sameBits 10000 x x = true) : Found G l x (e :: es) (a :: en) i0 (some e.2) (some (i0, a.val)) :=
  ⟨0, a, by omega, rfl, rfl, hv, hx, hb, fun v => by unfold putE; rw [hk]; rfl⟩

theorem find_int {k : IntKind} {n : Int} {x : Value} (hx : VR G (.val (.int k n)) x) {k' : IntKind} : ∀ {es : List (LV × LV)} {en : List MapEntry} {i0 : Nat} {r : Option LV}, All2 (fun (p : LV × LV) (e : MapEntry) => VR0 G p.1 e.key ∧ VR1 G p.2 e.val) es en →
    findE (.val (.int k n)) es = some r → ∃ q, Instr.findNow (.int k') x en i0 = some q ∧ Found G (.val (.int k n)) x es en i0 r q
  | [], [], i0, r, _, h => by
    simp only [findE] at h; cases h
    exact ⟨none, rfl, fun v => rfl⟩
  | [], _ :: _, _, _, hh, _ => hh.elim
  | _ :: _, [], _, _, hh, _ => hh.elim
  | e :: es, a :: en, i0, r, hh, h => by
    obtain ⟨rfl, _⟩ := vr_val hx
    unfold findE at h
    cases hk : keyEq (.val (.int k n)) e.1 with
    | none => rw [hk] at h; cases h
    | some b =>
      rw [hk] at h
      obtain ⟨k2, n2, he⟩ : ∃ k2 n2, e.1 = .val (.int k2 n2) := by
        cases h1 : e.1 with
        | val v => cases v <;> first | (rw [h1] at hk; cases hk; done) | exact ⟨_, _, rfl⟩
        | _ => rw [h1] at hk; cases hk
      have hkk := hk
      rw [he] at hk
      simp only [keyEq] at hk
      split at hk
      · rename_i hkk2
        subst hkk2
        injection hk with hk
        have hey := hh.1.1
        rw [he] at hey
        obtain ⟨hey, _⟩ := vr_val hey.vr
        unfold Instr.findNow
        rw [hey]
        simp only [Instr.sameNow, if_true]
        cases b with
        | true =>
          simp only at h; cases h
          rw [hk]
          simp only [beq_iff_eq] at hk
          subst hk
          exact ⟨_, rfl, Found.here hkk hh.1.2 hey (sameBits_int _ _ _)⟩
        | false =>
          simp only at h
          rw [hk]
          obtain ⟨q, h1, h2⟩ := find_int (k' := k') (i0 := i0 + 1) hx hh.2 h
          exact ⟨q, h1, h2.skip hkk⟩
      · cases hk

theorem find_agg {cs : List LV} {x : Value} (hx : VR G (.agg cs) x) {kt : TypeId} (hl : leafT P 8 kt = true) (ha : aggT P kt = true) (hn : sizeT P kt = some cs.length) : ∀ {es : List (LV × LV)} {en : List MapEntry} {i0 : Nat} {r : Option LV}, All2 (fun (p : LV × LV) (e : MapEntry) => VR0 G p.1 e.key ∧ VR1 G p.2 e.val) es en →
    findE (.agg cs) es = some r → ∃ q, (Instr.findAsking kt x en i0).run P w = .ok q w ∧ Found G (.agg cs) x es en i0 r q
  | [], [], i0, r, _, h => by
    simp only [findE] at h; cases h
    exact ⟨none, rfl, fun v => rfl⟩
  | [], _ :: _, _, _, hh, _ => hh.elim
  | _ :: _, [], _, _, hh, _ => hh.elim
  | e :: es, a :: en, i0, r, hh, h => by
    unfold findE at h
    cases hk : keyEq (.agg cs) e.1 with
    | none => rw [hk] at h; cases h
    | some b =>
      rw [hk] at h
      obtain ⟨ys, he⟩ : ∃ ys, e.1 = .agg ys := by
        cases h1 : e.1 <;> first | exact ⟨_, rfl⟩ | (rw [h1] at hk; cases hk)
      have hkk := hk
      rw [he] at hk
      simp only [keyEq] at hk
      obtain ⟨vs, hxv, h1⟩ := vr_agg hx
      have hey := hh.1.1
      rw [he] at hey
      obtain ⟨us, heu, h2⟩ := vr_agg hey.vr
      have hw := eqC_W hk h1 h2
      have := eqLeaf (P := P) 8 w 10000 vs.length vs us b hl (by omega) (by rw [← h1.length]; exact hn) rfl hw
      simp only [wrapT, ha, if_true] at this
      unfold Instr.findAsking
      have he2 : (Op.equal kt x a.key).run P w = .ok b w := by rw [hxv, heu]; exact this
      cases b with
      | true =>
        simp only at h; cases h
        obtain ⟨h5, h6⟩ := eqW_bits hw
        subst h5
        refine ⟨some (i0, a.val), by simp only [Sem.run_bind, he2, Result.andThen_ok, if_true, Sem.run_pure], Found.here hkk hh.1.2 (by rw [heu, hxv]) ?_⟩
        rw [hxv]
        unfold Instr.sameBits
        simp only [beq_self_eq_true, Bool.true_and]
        exact h6
      | false =>
        simp only at h
        obtain ⟨q, h3, h4⟩ := find_agg (i0 := i0 + 1) hx hl ha hn hh.2 h
        exact ⟨q, by simp only [Sem.run_bind, he2, Result.andThen_ok, Bool.false_eq_true, if_false, h3], h4.skip hkk⟩

theorem check_run {kt : TypeId} {n : Nat} {l : LV} {x : Value} (hk : keyT P kt = some n) (hn : keyN n l = true) (hx : VR G l x) (em : Bool) : (Instr.checkKey em 10000 kt x).run P w = .ok () w := by
  unfold keyT at hk
  split at hk
  · rename_i k hu
    cases hk
    unfold keyN at hn
    split at hn
    · obtain ⟨rfl, _⟩ := vr_val hx
      rw [show (10000 : Nat) = 9999 + 1 from rfl, Instr.checkKey]
      simp only [Sem.run_bind, run_underlying hu, Result.andThen_ok, Sem.run_pure]
    · simp at hn
    · cases hn
  · rename_i m e hu
    split at hk
    · rename_i k hue
      split at hk
      · rename_i hc
        cases hk
        simp only [Bool.and_eq_true, beq_iff_eq, decide_eq_true_eq] at hc
        obtain ⟨⟨⟨_, hse⟩, hs⟩, h0⟩ := hc
        unfold keyN at hn
        split at hn
        · simp at hn; omega
        · rename_i cs
          simp only [Bool.and_eq_true, beq_iff_eq] at hn
          obtain ⟨vs, rfl, h1⟩ := vr_agg hx
          have hvl : vs.length = n := by rw [← h1.length]; exact hn.1
          rw [show (10000 : Nat) = 9999 + 1 from rfl, Instr.checkKey]
          simp only [Sem.run_bind, run_underlying hu, Result.andThen_ok]
          simp only [Std.Legacy.Range.forIn_eq_forIn_range', Std.Legacy.Range.size, Nat.sub_zero, Nat.add_one_sub_one, Nat.div_one]
          have ha : aggT P e = false := by simp [aggT, hue]
          have each : ∀ j ∈ List.range' 0 n, j < n := fun j hj => by simp [List.mem_range'_1] at hj; omega
          generalize List.range' 0 n = is at each
          induction is with
          | nil => simp
          | cons j is ih =>
            have hj : j < vs.toArray.size := by have := each j (by simp); simp; omega
            have hp : (part e vs.toArray (j * 1)).run P w = .ok (wrapT P e ((vs.toArray.toList.drop (j * 1)).take 1)) w := part_run hse (fun _ => rfl) (by simp; simp at hj; omega)
            simp only [List.forIn_cons, Sem.run_bind, sizeT_run hse, Result.andThen_ok, hp]
            rw [show (9999 : Nat) = 9998 + 1 from rfl, Instr.checkKey]
            simp only [Sem.run_bind, run_underlying hue, Result.andThen_ok, Sem.run_pure]
            exact ih fun y hy => each y (by simp [hy])
        · cases hn
      · cases hk
    · cases hk
  · cases hk

theorem find_run {kt : TypeId} {n : Nat} {l : LV} {x : Value} (hk : keyT P kt = some n) (hn : keyN n l = true) (hx : VR G l x) {es : List (LV × LV)} {en : Array MapEntry} {r : Option LV}
    (ha : All2 (fun (p : LV × LV) (e : MapEntry) => VR0 G p.1 e.key ∧ VR1 G p.2 e.val) es en.toList) (h : findE l es = some r) : ∃ q, (Instr.findKey kt x en.toList).run P w = .ok q w ∧ Found G l x es en.toList 0 r q := by
  unfold keyT at hk
  split at hk
  · rename_i k hu
    cases hk
    unfold keyN at hn
    split at hn
    · obtain ⟨q, h1, h2⟩ := find_int (k' := k) (i0 := 0) hx ha h
      exact ⟨q, by unfold Instr.findKey; simp only [Sem.run_bind, run_underlying hu, Result.andThen_ok, h1, Sem.run_pure], h2⟩
    · simp at hn
    · cases hn
  · rename_i m e hu
    split at hk
    · rename_i k hue
      split at hk
      · rename_i hc
        cases hk
        simp only [Bool.and_eq_true, beq_iff_eq, decide_eq_true_eq] at hc
        obtain ⟨⟨⟨hl, hse⟩, hs⟩, h0⟩ := hc
        unfold keyN at hn
        split at hn
        · simp at hn; omega
        · rename_i cs
          simp only [Bool.and_eq_true, beq_iff_eq] at hn
          obtain ⟨q, h1, h2⟩ := find_agg (P := P) (w := w) (i0 := 0) hx hl (by simp [aggT, hu]) (by rw [hn.1]; exact hs) ha h
          refine ⟨q, ?_, h2⟩
          unfold Instr.findKey
          simp only [Sem.run_bind, run_underlying hu, Result.andThen_ok]
          cases hen : en.toList with
          | nil => rw [hen] at h1; simpa [Instr.findNow, Instr.findAsking] using h1
          | cons a r => rw [hen] at h1; simpa only [Instr.findNow, Instr.sameNow] using h1
        · cases hn
      · cases hk
    · cases hk
  · cases hk

theorem map_live {t : Nat} {es : List (LV × LV)} {x : Value} (he : EmbA G M w) (hx : VR G (.mp t) x) (hl : M[t]? = some (some (.map es))) :
    ∃ β en clock, G t = some β ∧ β.virt = false ∧ x = .map (some β.b) ∧ w.heap[β.b]? = some (.map en clock) ∧ All2 (fun (p : LV × LV) (e : MapEntry) => VR0 G p.1 e.key ∧ VR1 G p.2 e.val) es en.toList := by
  obtain ⟨β, hg, hv, rfl⟩ := vr_mp hx
  obtain ⟨_, en, clock, h1, h2⟩ := he t _ β hl hg
  exact ⟨β, en, clock, hg, hv, rfl, h1, h2⟩

theorem zero1_run {t : TypeId} {z : Value} (h : zero1 P t = some z) : z.oneCell' = true ∧ (zeroValue t).run P w = .ok z w := by
  unfold zero1 at h
  split at h
  · rename_i i hi
    split at h
    · rename_i v hz
      split at h
      · rename_i ho
        cases h
        exact ⟨ho, by simp [zeroValue, typeInfo, hi, hz]⟩
      · cases h
    · cases h
  · cases h

theorem snd_lookup {t : TypeId} {m k : Operand} {okc : Bool} {ao : AOp} {d : Nat} {v : LV} {c : Prop} (hp : prepO P ⟨some dst, .lookup t m k okc, ty, pos, after, guard⟩ = some ao) (hs : sop ao fr M = some (d, v, c)) (h : Rd0 G fr M ρ w #[m, k]) :
    SndS P G M ρ w ⟨some dst, .lookup t m k okc, ty, pos, after, guard⟩ d v := by
  simp only [prepO] at hp
  split at hp
  · rename_i kt et m' k' hu hm hk
    split at hp
    · rename_i n z hkt hz
      cases hp
      simp only [sop] at hs
      obtain ⟨r, h1, h2⟩ := map_some' hs
      cases h2
      unfold lookM at h1
      split at h1
      · rename_i t' hmt
        split at h1
        · rename_i es hl
          split at h1
          · rename_i hkn
            have hvm := h.op m (by simp) m' hm
            have hvk := h.op k (by simp) k' hk
            rw [hmt] at hvm
            obtain ⟨β, en, clock, _, _, hmx, hb, hall⟩ := map_live h.mem hvm hl
            obtain ⟨q, h3, h4⟩ := find_run (P := P) (w := w) hkt hkn hvk hall h1
            obtain ⟨hone, z1⟩ := zero1_run (w := w) hz
            have hck := check_run (P := P) (w := w) (em := en.isEmpty) hkt hkn hvk
            unfold Found at h4
            split at h4
            · refine ⟨if okc then .tuple #[z, .bool false] else z, rfl, ?_, ?_⟩
              · simp only [execOp, Sem.run_bind, Instr.lookup, run_underlying hu, Result.andThen_ok, hmx, MapKept.run_getObj_map hb, Sem.run_pure, hck, h3, z1]
              · cases okc
                · exact vr1_val hone
                · exact ⟨[z, .bool false], rfl, ⟨rfl, hone⟩, ⟨rfl, rfl⟩, trivial⟩
            · rename_i u i0 y
              obtain ⟨j, e, _, _, _, h5, _⟩ := h4
              refine ⟨if okc then .tuple #[y, .bool true] else y, rfl, ?_, ?_⟩
              · simp only [execOp, Sem.run_bind, Instr.lookup, run_underlying hu, Result.andThen_ok, hmx, MapKept.run_getObj_map hb, Sem.run_pure, hck, h3]
              · cases okc
                · exact h5.vr
                · exact ⟨[y, .bool true], rfl, h5.vr0, ⟨rfl, rfl⟩, trivial⟩
            · exact h4.elim
          · cases h1
        · cases h1
      · cases h1
    · cases hp
  · cases hp

theorem put_find {l v : LV} : ∀ {es es' : List (LV × LV)}, putE l v es = some es' → ∃ r, findE l es = some r
  | [], _, _ => ⟨none, rfl⟩
  | e :: es, es', h => by
    unfold putE at h
    unfold findE
    cases hk : keyEq l e.1 with
    | none => rw [hk] at h; cases h
    | some b =>
      rw [hk] at h
      cases b with
      | true => exact ⟨_, rfl⟩
      | false =>
        obtain ⟨es2, h2, _⟩ := map_some' h
        exact put_find h2
end
end Go.Ab

namespace Go.Ab
open Go Go.RowKit

section
variable {P : Program} {G : Gh} {fr : Fr} {M : Mem} {ρ : Operand → Value} {w : World} {d : Nat} {v : LV} {c : Prop} {ao : AOp}
variable {dst : Nat} {ty : TypeId} {pos : String} {after : Array Edge} {guard : Option (Nat × Bool)}

theorem run_equalIn_slnil {P : Program} (w : World) (d : Nat) (t e : TypeId) (a : Option Addr) (l c : Nat) (h : P.underlying t = some (.slice e)) : (Op.equalIn (d + 1) t (.slice a l c) (.slice none 0 0)).run P w = .ok a.isNone w := by
  cases a <;> simp [Op.equalIn, run_underlying h]
theorem run_equal_slnil {P : Program} (w : World) (t e : TypeId) (a : Option Addr) (l c : Nat) (h : P.underlying t = some (.slice e)) : (Op.equal t (.slice a l c) (.slice none 0 0)).run P w = .ok a.isNone w := run_equalIn_slnil w 9999 t e a l c h
theorem snd_field {t : TypeId} {x : Operand} {f : Nat} (hp : prepO P ⟨some dst, .field t x f, ty, pos, after, guard⟩ = some ao) (hs : sop ao fr M = some (d, v, c)) (h : Rd0 G fr M ρ w #[x]) :
    SndS P G M ρ w ⟨some dst, .field t x f, ty, pos, after, guard⟩ d v := by
  simp only [prepO] at hp
  split at hp
  · rename_i fs y hu hx
    have hvx := h.op x (by simp) y hx
    split at hp
    · rename_i g hg
      split at hp
      · rename_i n hn
        cases hp
        simp only [sop] at hs
        split at hs
        · rename_i cs hy
          rw [hy] at hvx
          obtain ⟨xs, hxv, hall⟩ := vr_agg hvx
          have hagg := aggT_run (w := w) hn
          cases ha : aggT P g.type with
          | true =>
            rw [ha] at hs
            simp only [if_true] at hs
            split at hs
            · rename_i hle
              cases hs
              refine ⟨.agg (xs.toArray.extract g.offset (g.offset + n)), rfl, ?_, ⟨(xs.drop g.offset).take n, ?_, (hall.drop _).take _⟩⟩
              · simp only [execOp, Sem.run_bind, Instr.field, run_underlying hu, Result.andThen_ok, hg, hxv, asAgg, Sem.run_pure, part, hagg, ha, if_true, sizeT_run hn]
              · congr 1
                apply Array.ext'
                simp [List.extract]
            · cases hs
          | false =>
            rw [ha] at hs
            simp only [Bool.false_eq_true, if_false] at hs
            obtain ⟨u, hu', he⟩ := map_some' hs
            cases he
            obtain ⟨b, hb1, hb2⟩ := hall.get hu'
            refine ⟨b, rfl, ?_, hb2.vr⟩
            simp only [execOp, Sem.run_bind, Instr.field, run_underlying hu, Result.andThen_ok, hg, hxv, asAgg, Sem.run_pure, part, hagg, ha, Bool.false_eq_true, if_false, List.getElem?_toArray, hb1]
        · cases hs
      · cases hp
    · cases hp
  · cases hp

theorem snd_index {t : TypeId} {x i : Operand} (hp : prepO P ⟨some dst, .index t x i, ty, pos, after, guard⟩ = some ao) (hs : sop ao fr M = some (d, v, c)) (hc : c) (h : Rd0 G fr M ρ w #[x, i]) :
    SndS P G M ρ w ⟨some dst, .index t x i, ty, pos, after, guard⟩ d v := by
  simp only [prepO] at hp
  split at hp
  · rename_i n e y k hu hx hi
    have hvx := h.op x (by simp) y hx
    have hvi := h.op i (by simp) k hi
    obtain ⟨s, hse, rfl⟩ := map_some' hp
    simp only [sop] at hs
    split at hs
    · rename_i cs m hy hm
      rw [hy] at hvx
      obtain ⟨kk, hk⟩ := intV_vr hm hvi
      obtain ⟨xs, hxv, hall⟩ := vr_agg hvx
      have hagg := aggT_run (w := w) hse
      split at hs
      · rename_i ha
        cases hs
        refine ⟨.agg (xs.toArray.extract (m.toNat * s) (m.toNat * s + s)), rfl, ?_, ⟨(xs.drop (m.toNat * s)).take s, ?_, (hall.drop _).take _⟩⟩
        · simp only [execOp, Sem.run_bind, Instr.index, hk, asIntOf, Sem.run_pure, run_underlying hu, Result.andThen_ok, hxv, hc.1, hc.2.1, and_self, if_true, part, hagg, ha, sizeT_run hse]
        · congr 1
          apply Array.ext'
          simp [List.extract]
      · rename_i ha
        split at hs
        · rename_i u hu'
          cases hs
          obtain ⟨b, hb1, hb2⟩ := hall.get hu'
          refine ⟨b, rfl, ?_, hb2.vr⟩
          simp only [execOp, Sem.run_bind, Instr.index, hk, asIntOf, Sem.run_pure, run_underlying hu, Result.andThen_ok, hxv, hc.1, hc.2, and_self, if_true, part, hagg, ha, Bool.false_eq_true, if_false, sizeT_run hse, List.getElem?_toArray, hb1]
        · cases hs
    · cases hs
  · rename_i y k hu hx hi
    have hvx := h.op x (by simp) y hx
    have hvi := h.op i (by simp) k hi
    cases hp
    simp only [sop] at hs
    split at hs
    · rename_i s m hy hm
      cases hs
      rw [hy] at hvx
      obtain ⟨kk, hk⟩ := intV_vr hm hvi
      obtain ⟨hxv, _⟩ := vr_val hvx
      have hlt : m.toNat < s.size := by omega
      refine ⟨.int .u8 (s[m.toNat]).toNat, rfl, ?_, ?_⟩
      · simp only [execOp, Sem.run_bind, Instr.index, hk, asIntOf, Sem.run_pure, run_underlying hu, Result.andThen_ok, hxv, hc.1, if_true]
        rw [show s[m.toNat]? = some s[m.toNat] from getElem?_pos s m.toNat hlt]
        rfl
      · have e1 : s.data.toList.getD m.toNat 0 = s[m.toNat] := by
          rw [List.getD_eq_getElem?_getD, Array.getElem?_toList]
          have : s.data[m.toNat]? = some s.data[m.toNat] := getElem?_pos s.data m.toNat hlt
          rw [this]; rfl
        rw [e1]
        exact vr1_val rfl
    · cases hs
  · cases hp

theorem foldlM_mm {mx : Bool} : ∀ (r : List Int) (m : Int), ((r.map (Value.int .i64)).foldlM (if mx then Builtin.max2 else Builtin.min2) (.int .i64 m)).run P w =
    .ok (.int .i64 (r.foldl (fun a b => if mx then max a b else min a b) m)) w
  | [], m => rfl
  | a :: r, m => by
    simp only [List.map_cons, List.foldlM_cons, Sem.run_bind, List.foldl_cons]
    have : ((if mx then Builtin.max2 else Builtin.min2) (.int .i64 m) (.int .i64 a)).run P w = .ok (.int .i64 (if mx then max m a else min m a)) w := by
      cases mx
      · simp only [Bool.false_eq_true, if_false, Builtin.min2, Sem.run_pure]
        congr 2
        split <;> omega
      · simp only [if_true, Builtin.max2, Sem.run_pure]
        congr 2
        split <;> omega
    rw [this, Result.andThen_ok]
    exact foldlM_mm r _

theorem snd_builtin {cl : Call} (hp : prepCall P cl (some dst) = some ao) (hs : sop ao fr M = some (d, v, c)) (h : Rd0 G fr M ρ w cl.operands) :
    SndS P G M ρ w ⟨some dst, .call cl, ty, pos, after, guard⟩ d v := by
  obtain ⟨callee, args, argTypes⟩ := cl
  unfold prepCall at hp
  simp only at hp
  split at hp
  · split at hp
    · obtain ⟨ys, _, rfl⟩ := map_some' hp; simp [sop] at hs
    · cases hp
  · split at hp
    · cases hp; simp [sop] at hs
    · cases hp
  · split at hp
    · split at hp
      · split at hp <;> cases hp; simp [sop] at hs
      · cases hp
    · cases hp
  · rename_i b _
    have hargs : ∀ x ∈ args.toList, ∀ y, prepX x = some y → VR G (y.ev fr) (ρ x) := fun x hx => h.op x (by simp [Call.operands]; exact Array.mem_toList_iff.1 hx)
    split at hp
    · rename_i dd x tx e0 e1 e2 _
      cases e0
      have ea : args = #[x] := by apply Array.ext'; exact e1
      have et : argTypes = #[tx] := by apply Array.ext'; exact e2
      subst ea; subst et
      split at hp
      · rename_i y el hx hu
        cases hp
        have hvx := hargs x (by simp) y hx
        simp only [sop] at hs
        obtain ⟨n, hn, he⟩ := map_some' hs
        cases he
        refine ⟨.int .i64 n, rfl, ?_, ⟨rfl, rfl⟩⟩
        unfold lenV at hn
        split at hn
        · rename_i t off m hy
          cases hn
          rw [hy] at hvx
          obtain ⟨β, hg, a, cap, hxv, _⟩ := vr_ref hvx
          simp [execOp, resolve, invoke, builtin, Builtin.len_, run_underlying hu, hxv, goInt]
        · rename_i hy
          cases hn
          rw [hy] at hvx
          obtain ⟨hxv, _⟩ := vr_val hvx
          simp [execOp, resolve, invoke, builtin, Builtin.len_, run_underlying hu, hxv, goInt]
        · cases hn
      · rename_i y hx hu
        cases hp
        have hvx := hargs x (by simp) y hx
        simp only [sop] at hs
        obtain ⟨n, hn, he⟩ := map_some' hs
        cases he
        refine ⟨.int .i64 n, rfl, ?_, ⟨rfl, rfl⟩⟩
        unfold lenTV at hn
        split at hn
        · rename_i s hy
          cases hn
          rw [hy] at hvx
          obtain ⟨hxv, _⟩ := vr_val hvx
          simp [execOp, resolve, invoke, builtin, Builtin.len_, run_underlying hu, hxv, goInt]
        · cases hn
      · cases hp
    · split at hp
      · split at hp
        · split at hp <;> cases hp; simp [sop] at hs
        · cases hp
      · cases hp
    · split at hp
      · split at hp
        · obtain ⟨_, _, rfl⟩ := map_some' hp; simp [sop] at hs
        · cases hp
      · cases hp
    · rename_i dd e0 _
      cases e0
      obtain ⟨ys, hy, rfl⟩ := map_some' hp
      simp only [sop] at hs
      obtain ⟨u, hu, he⟩ := map_some' hs
      cases he
      obtain ⟨n, rfl, ns, hxs, m, r, rfl, rfl⟩ := maxV_run hu (opds_vr hy hargs)
      have := foldlM_mm (P := P) (w := w) (mx := true) r m
      simp only [if_true] at this
      refine ⟨_, rfl, ?_, vr1_val rfl⟩
      simp only [execOp, resolve, Sem.run_bind, Sem.run_pure, Result.andThen_ok, invoke, builtin, Builtin.max_, Array.toList_map, hxs, List.map_cons, this]
      rfl
    · rename_i dd e0 _
      cases e0
      obtain ⟨ys, hy, rfl⟩ := map_some' hp
      simp only [sop] at hs
      obtain ⟨u, hu, he⟩ := map_some' hs
      cases he
      obtain ⟨n, rfl, ns, hxs, m, r, rfl, rfl⟩ := maxV_run hu (opds_vr hy hargs)
      have := foldlM_mm (P := P) (w := w) (mx := false) r m
      simp only [Bool.false_eq_true, if_false] at this
      refine ⟨_, rfl, ?_, vr1_val rfl⟩
      simp only [execOp, resolve, Sem.run_bind, Sem.run_pure, Result.andThen_ok, invoke, builtin, Builtin.min_, Array.toList_map, hxs, List.map_cons, this]
      rfl
    · cases hp
  · cases hp

theorem sop_sound {o : Oper} (hp : prepO P o = some ao) (hs : sop ao fr M = some (d, v, c)) (hc : c) (h : Rd0 G fr M ρ w o.op.operands) : SndS P G M ρ w o d v := by
  obtain ⟨dst, op, ty, pos, after, guard⟩ := o
  cases dst with
  | none =>
    cases op <;> simp only [prepO] at hp <;> try (cases hp; done)
    case store t a x => split at hp <;> cases hp; simp [sop] at hs
    case mapUpdate t m k v => split at hp <;> (try cases hp); obtain ⟨_, _, rfl⟩ := map_some' hp; simp [sop] at hs
    case insert t m k v => split at hp <;> (try cases hp); obtain ⟨_, _, rfl⟩ := map_some' hp; simp [sop] at hs
    case call cl =>
      unfold prepCall at hp
      split at hp
      · split at hp
        · obtain ⟨ys, _, rfl⟩ := map_some' hp; simp [sop] at hs
        · cases hp
      · split at hp
        · cases hp; simp [sop] at hs
        · cases hp
      · split at hp
        · split at hp
          · split at hp <;> cases hp; simp [sop] at hs
          · cases hp
        · cases hp
      · rename_i b _ _; cases b <;> simp at hp
      · cases hp
  | some d0 =>
    cases op <;> try (simp only [prepO] at hp; cases hp; done)
    case move x =>
      simp only [prepO] at hp
      obtain ⟨y, hy, rfl⟩ := map_some' hp
      simp only [sop] at hs; cases hs
      exact ⟨_, rfl, rfl, h.op x (by simp [Op.operands]) y hy⟩
    case assign x =>
      simp only [prepO] at hp
      obtain ⟨y, hy, rfl⟩ := map_some' hp
      simp only [sop] at hs; cases hs
      exact ⟨_, rfl, rfl, h.op x (by simp [Op.operands]) y hy⟩
    case pick cc a b =>
      simp only [prepO] at hp
      split at hp
      · rename_i c' a' b' e1 e2 e3
        cases hp
        simp only [sop] at hs
        split at hs
        · rename_i t ht
          cases hs
          have hv := h.op cc (by simp [Op.operands]) c' e1
          rw [ht] at hv
          obtain ⟨hcv, _⟩ := vr_val hv
          refine ⟨if t then ρ a else ρ b, rfl, by simp [execOp, hcv, asBool], ?_⟩
          cases t
          · exact h.op b (by simp [Op.operands]) b' e3
          · exact h.op a (by simp [Op.operands]) a' e2
        · cases hs
      · cases hp
    case build t ps => exact snd_build hp hs ⟨fun x hx => h.op x (by simpa [Op.operands] using hx), h.mem⟩
    case load t x => exact snd_load hp hs h
    case lookup t m k okc => exact snd_lookup hp hs h
    case nilCheck x =>
      simp only [prepO] at hp
      obtain ⟨y, hy, rfl⟩ := map_some' hp
      simp only [sop] at hs
      split at hs
      · rename_i t off ht
        cases hs
        have hv := h.op x (by simp [Op.operands]) y hy
        rw [ht] at hv
        obtain ⟨β, hg, hvt, hx⟩ := vr_ptr hv
        exact ⟨_, rfl, by simp only [execOp, hx]; rfl, ⟨β, hg, hvt, rfl⟩⟩
      · cases hs
    case binOp bo t x y yt =>
      simp only [prepO] at hp
      have key : ∀ x' y', prepX x = some x' → prepX y = some y' → ao = .bin d0 bo x' y' → SndS P G M ρ w ⟨some d0, .binOp bo t x y yt, ty, pos, after, guard⟩ d v := by
        intro x' y' hx hy e
        subst e
        simp only [sop] at hs
        obtain ⟨vc, hb, he⟩ := map_some' hs
        obtain ⟨v0, c0⟩ := vc
        dsimp only at he
        cases he
        obtain ⟨z, h1, h2, h3⟩ := binV_run (P := P) (w := w) hb hc (h.op x (by simp [Op.operands]) x' hx) (h.op y (by simp [Op.operands]) y' hy) t
        exact ⟨z, rfl, by simp only [execOp, Sem.run_bind, h3, Result.andThen_ok, h1, Sem.run_pure], h2.vr⟩
      split at hp
      · rename_i e1 e2 _; cases hp; exact key _ _ e1 e2 rfl
      · rename_i e1 e2 _; cases hp; exact key _ _ e1 e2 rfl
      · rename_i x' y' hx hy hu
        split at hp
        · cases hp
        rename_i hnn
        have key2 : ∀ neq : Bool, bo = (if neq then .neq else .eql) → ao = .eqb d0 neq x' y' → SndS P G M ρ w ⟨some d0, .binOp bo t x y yt, ty, pos, after, guard⟩ d v := by
          intro neq e1 e2
          subst e1; subst e2
          simp only [sop] at hs
          obtain ⟨u, hb, he⟩ := map_some' hs
          cases he
          have hvx := h.op x (by simp [Op.operands]) x' hx
          have hvy := h.op y (by simp [Op.operands]) y' hy
          unfold eqoV at hb
          split at hb
          · exact absurd rfl hnn
          unfold eqbV at hb
          split at hb
          · rename_i a b ea eb
            cases hb
            rw [ea] at hvx; rw [eb] at hvy
            obtain ⟨hxv, _⟩ := vr_val hvx
            obtain ⟨hyv, _⟩ := vr_val hvy
            refine ⟨.bool (if neq then !(a == b) else a == b), rfl, ?_, ⟨rfl, rfl⟩⟩
            cases neq
            · simp [execOp, hxv, hyv, eqGuard, binOp, run_equal_bool w t a b hu]
            · simp [execOp, hxv, hyv, eqGuard, binOp, run_equal_bool w t a b hu]
          · cases hb
        cases bo <;> simp only at hp <;> try (cases hp; done)
        · cases hp; exact key2 false rfl rfl
        · cases hp; exact key2 true rfl rfl
      · rename_i x' y' e hx hy hu
        split at hp
        · have key2 : ∀ neq : Bool, bo = (if neq then .neq else .eql) → ao = .eqb d0 neq x' (.c (.val (.slice none 0 0))) → SndS P G M ρ w ⟨some d0, .binOp bo t x y yt, ty, pos, after, guard⟩ d v := by
            intro neq e1 e2
            subst e1; subst e2
            simp only [sop] at hs
            obtain ⟨u, hb, he⟩ := map_some' hs
            cases he
            have hvx := h.op x (by simp [Op.operands]) x' hx
            have hvy := h.op y (by simp [Op.operands]) _ hy
            obtain ⟨hyv, _⟩ := vr_val hvy
            simp only [eqoV] at hb
            unfold nilV at hb
            split at hb
            · rename_i t0 o0 n0 ea
              cases hb
              rw [ea] at hvx
              obtain ⟨β, _, a0, cap0, hxv, hor⟩ := vr_ref hvx
              rcases hor with ⟨h0, _⟩ | ⟨_, ha, _⟩
              · omega
              subst ha
              refine ⟨.bool neq, rfl, ?_, ⟨rfl, rfl⟩⟩
              cases neq
              · simp [execOp, hxv, hyv, eqGuard, binOp, run_equal_slnil w t e _ _ _ hu]
              · simp [execOp, hxv, hyv, eqGuard, binOp, run_equal_slnil w t e _ _ _ hu]
            · rename_i ea
              cases hb
              rw [ea] at hvx
              obtain ⟨hxv, _⟩ := vr_val hvx
              refine ⟨.bool (!neq), rfl, ?_, ⟨rfl, rfl⟩⟩
              cases neq
              · simp [execOp, hxv, hyv, eqGuard, binOp, run_equal_slnil w t e _ _ _ hu]
              · simp [execOp, hxv, hyv, eqGuard, binOp, run_equal_slnil w t e _ _ _ hu]
            · cases hb
          cases bo <;> simp only at hp <;> try (cases hp; done)
          · cases hp; exact key2 false rfl rfl
          · cases hp; exact key2 true rfl rfl
        · cases hp
      · rename_i x' y' hx hy _ _ _ _
        split at hp
        · rename_i hl
          simp only [Bool.and_eq_true, Bool.not_eq_true'] at hl
          have key2 : ∀ (neq : Bool) (n : Nat), sizeT P t = some n → bo = (if neq then .neq else .eql) → ao = .eqs d0 neq n x' y' → SndS P G M ρ w ⟨some d0, .binOp bo t x y yt, ty, pos, after, guard⟩ d v := by
            intro neq n hn e1 e2
            subst e1; subst e2
            simp only [sop] at hs
            obtain ⟨u, hb, he⟩ := map_some' hs
            cases he
            obtain ⟨z, h1, h2, h3⟩ := eqV_run (P := P) (w := w) hb (h.op x (by simp [Op.operands]) x' hx) (h.op y (by simp [Op.operands]) y' hy) hl.1.1 hl.1.2 hl.2 hn
            exact ⟨z, rfl, by simp only [execOp, Sem.run_bind, h3, Result.andThen_ok, h1, Sem.run_pure], h2.vr⟩
          split at hp
          · rename_i n hn; cases hp; exact key2 false n hn rfl rfl
          · rename_i n hn; cases hp; exact key2 true n hn rfl rfl
          · cases hp
        · cases hp
      · cases hp
    case unOp uo t x =>
      simp only [prepO] at hp
      obtain ⟨y, hy, rfl⟩ := map_some' hp
      simp only [sop] at hs
      obtain ⟨u, hu, he⟩ := map_some' hs
      cases he
      have hv := h.op x (by simp [Op.operands]) y hy
      unfold unV at hu
      split at hu
      · rename_i b hb
        rw [hb] at hv
        obtain ⟨hxv, _⟩ := vr_val hv
        split at hu
        · cases hu; exact ⟨_, rfl, by simp only [execOp, hxv, Op.unary]; rfl, ⟨rfl, rfl⟩⟩
        · cases hu
      · rename_i k n hb
        rw [hb] at hv
        obtain ⟨hxv, _⟩ := vr_val hv
        split at hu
        · cases hu; exact ⟨_, rfl, by simp only [execOp, hxv, Op.unary, Op.intArith]; rfl, ⟨rfl, rfl⟩⟩
        · cases hu; exact ⟨_, rfl, by simp only [execOp, hxv, Op.unary, Op.intBits]; rfl, ⟨rfl, rfl⟩⟩
        · cases hu
      · cases hu
    case convert sT tT x =>
      simp only [prepO] at hp
      split at hp
      · rename_i y ds k hx hs1 hs2
        cases hp
        simp only [sop] at hs
        have hv := h.op x (by simp [Op.operands]) y hx
        split at hs
        · rename_i kk n hb
          cases hs
          rw [hb] at hv
          obtain ⟨hxv, _⟩ := vr_val hv
          exact ⟨_, rfl, by simp only [execOp, hxv, convert, Sem.run_bind, run_underlying hs1, run_underlying hs2, Result.andThen_ok, Conv.intToInt]; rfl, ⟨rfl, rfl⟩⟩
        · cases hs
      · cases hp
    case makeFunc fn fi ca =>
      cases fn <;> simp only [prepO] at hp <;> try (cases hp; done)
      case func f =>
        split at hp
        · rename_i hfi
          obtain ⟨ys, hy, rfl⟩ := map_some' hp
          simp only [sop] at hs
          obtain ⟨cs, hcs, he⟩ := map_some' hs
          cases he
          have hfi' : fi = #[] := by simpa using hfi
          subst hfi'
          refine ⟨.func (.func f) #[] (ca.map ρ), rfl, by simp [execOp, Instr.makeFunc], ⟨ca.toList.map ρ, by congr 1; apply Array.ext'; simp, capOf_vr hy (fun x hx => h.op x (by simp [Op.operands]; exact Array.mem_toList_iff.1 hx)) hcs⟩⟩
        · cases hp
    case slice t x lo hi mx =>
      refine snd_slice hp hs hc (fun u hu y hy => h.op u ?_ y hy) h.mem
      simp only [Op.operands]
      rcases hu with rfl | rfl | rfl <;> simp
    case fieldAddr t x f =>
      simp only [prepO] at hp
      split at hp
      · rename_i fs y hu hx
        split at hp
        · rename_i g hg
          split at hp
          · rename_i n hn
            split at hp
            · cases hp
            · rename_i hn0
              cases hp
              simp only [sop] at hs
              have hv := h.op x (by simp [Op.operands]) y hx
              split at hs
              · rename_i t' o hb
                cases hs
                rw [hb] at hv
                obtain ⟨β, hgb, hvt, hxv⟩ := vr_ptr hv
                refine ⟨.pointer (some ⟨β.b, β.o + (o + g.offset), none⟩), rfl, ?_, ⟨β, hgb, hvt, rfl⟩⟩
                simp only [execOp, Instr.fieldAt, Sem.run_bind, run_underlying hu, Result.andThen_ok, hg, hxv, Instr.sureAddr, Sem.run_pure, fieldPlace, sizeT_run hn, hn0, if_false, addr_add, Nat.add_assoc]
              · cases hs
          · cases hp
        · cases hp
      · cases hp
    case field t x f => exact snd_field hp hs h
    case indexAddr t x i => exact snd_idx hp hs hc h
    case index t x i => exact snd_index hp hs hc h
    case extract x i =>
      simp only [prepO] at hp
      obtain ⟨y, hy, rfl⟩ := map_some' hp
      simp only [sop] at hs
      have hv := h.op x (by simp [Op.operands]) y hy
      split at hs
      · rename_i vs hb
        obtain ⟨u, hu, he⟩ := map_some' hs
        cases he
        rw [hb] at hv
        obtain ⟨xs, hxv, hall⟩ := vr_tup hv
        obtain ⟨b, hb1, hb2⟩ := hall.get hu
        exact ⟨b, rfl, by simp only [execOp, hxv, Instr.extract, List.getElem?_toArray, hb1]; rfl, hb2.vr⟩
      · cases hs
    case call cl => exact snd_builtin (by simpa only [prepO] using hp) hs h
    case alloc t => simp only [prepO] at hp; obtain ⟨_, _, rfl⟩ := map_some' hp; simp [sop] at hs
    case box t x => simp only [prepO] at hp; obtain ⟨_, _, rfl⟩ := map_some' hp; simp [sop] at hs
    case buildSlice t n ps =>
      simp only [prepO] at hp
      split at hp
      · split at hp
        · split at hp
          · obtain ⟨_, _, rfl⟩ := map_some' hp; simp [sop] at hs
          · cases hp
        · cases hp
      · cases hp
    case makeMap t r => cases r <;> simp only [prepO] at hp <;> cases hp; simp [sop] at hs
    case makeSlice t l cp =>
      simp only [prepO] at hp
      split at hp
      · split at hp
        · split at hp <;> cases hp; simp [sop] at hs
        · cases hp
      · cases hp
end
end Go.Ab
