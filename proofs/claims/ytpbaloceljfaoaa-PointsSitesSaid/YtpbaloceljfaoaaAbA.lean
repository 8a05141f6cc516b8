/- An abstract run of Go's code: slices as lists, memory of the call's own by numbers. -/
import Derived.Calls
import Derived.Orders
import Derived.Laws.Sem
import Derived.ArgAppend
import Derived.Deep.MidRow
import Derived.Laws.MakeOwn
import Derived.Lib.SliceRun
import Derived.Laws.Small
import Derived.Laws.StructEq
import Derived.ChangeKeysEq
import Derived.Laws.NewFold
set_option linter.unusedVariables false
set_option linter.unusedSimpArgs false
namespace Go.Proofs.Ytpbaloceljfaoaa.Ab
open Go

inductive AV where
  | any
  | undef
  | int (k : IntKind) (n : Int)
  | bool (b : Bool)
  | str (s : ByteArray)
  | fn (f : FuncId)
  | nil
  | row (n : Nat) (cs : List AV)
  | agg (cs : List AV)
  | tup (vs : List AV)
  | own (id off n sz : Nat)
  | ptr (id off : Nat)
  | rptr (cs : List AV) (off : Nat)
  | clo (f : FuncId) (cs : List AV)
  | cst (v : Value)
  | map (id : Nat)
  deriving Inhabited

inductive Blk where
  | dead
  | gone
  | arr (cs : List AV)
  | obj (cs : List AV)
  | map (es : List (AV × AV))
  deriving Inhabited

structure AS where
  tmps : List AV
  heap : List Blk
  frz : List Bool

/-- What a type is, as far as this run asks. -/
inductive TD where
  | int (k : IntKind) | bool | str
  | slice (e sz bytes : Nat) (zero : List AV)
  | struct (size : Nat) (zero : List AV) (fs : List (Nat × Nat × Bool))
  | array (len sz size : Nat) (zero : List AV) (agg : Bool)
  | map (k e : Nat) (zero : AV)
  | other
  deriving Inhabited

def ofCell : Value → AV
  | .int k n => .int k n
  | .bool b => .bool b
  | .string s => .str s
  | .slice none n m => if n = 0 ∧ m = 0 then .nil else .any
  | _ => .any
def ofVal : Value → AV
  | .agg cs => if cs.all Value.oneCell' then .agg (cs.toList.map ofCell) else .any
  | v => ofCell v

def aggT (P : Program) (t : TypeId) : Bool := match P.underlying t with | some (.struct _) | some (.array ..) => true | _ => false
def sizeT (P : Program) (t : TypeId) : Nat := match P.info? t with | some i => i.size | none => 0
def zeroT (P : Program) (t : TypeId) : List AV := match P.info? t with | some i => (match i.zero with | some z => z.cells.toList.map ofCell | none => []) | none => []
def okT (P : Program) (t : TypeId) : Bool := (P.underlying t).isSome && match P.info? t with | some i => (match i.zero with | some z => z.cells.size == i.size && i.size != 0 && z.cells.all Value.oneCell' | none => false) | none => false
def kindT (P : Program) (t : TypeId) : Option (Nat × Bool) := if okT P t then some (sizeT P t, aggT P t) else none
def tdesc (P : Program) (t : TypeId) : TD :=
  match P.underlying t with
  | some (.int k) => .int k
  | some .bool => .bool
  | some .string => .str
  | some (.slice e) => if okT P e then .slice e (sizeT P e) (match P.info? e with | some i => i.bytes | none => 0) (zeroT P e) else .other
  | some (.struct fs) => if okT P t && fs.all (fun f => okT P f.type) then .struct (sizeT P t) (zeroT P t) (fs.toList.map fun f => (f.offset, sizeT P f.type, aggT P f.type)) else .other
  | some (.array n e) => if okT P t && okT P e then .array n (sizeT P e) (sizeT P t) (zeroT P t) (aggT P e) else .other
  | some (.map k e) => if okT P e then .map k e (match P.info? e with | some i => (match i.zero with | some z => ofVal z | none => .any) | none => .any) else .other
  | _ => .other

def AV.cells : AV → Option (List AV)
  | .agg cs => some cs
  | .tup _ | .any | .undef => none
  | v => some [v]

def lookA (tm : List AV) : Operand → AV
  | .tmp t => tm.getD t .undef
  | .const v => ofVal v
  | .func f => .fn f
  | .global _ => .any

def putT (tm : List AV) : Option Tmp → AV → List AV
  | some d, v => tm.set d v
  | none, _ => tm

/-- Cells of a block. -/
def Blk.cells : Blk → Option (List AV)
  | .arr cs => some cs
  | .obj cs => some cs
  | .dead | .gone | .map _ => none

/-- A value of one cell, without what is the call's own; and the blocks that it shows. -/
def partA (cs : List AV) (off size : Nat) (agg : Bool) : Option AV :=
  if agg then (if off + size ≤ cs.length then some (.agg ((cs.drop off).take size)) else none) else cs[off]?
def partK (cs : List AV) (off : Nat) : Option (Nat × Bool) → Option AV
  | some (n, a) => partA cs off n a
  | none => none
def reify1 (g : Nat → Option Blk) : AV → Option (AV × List Nat)
  | .own id off n sz => match g id with
    | some (.arr cs) => if off + n * sz ≤ cs.length then some (.row n ((cs.drop off).take (n * sz)), [id]) else none
    | _ => none
  | .ptr _ _ | .map _ | .agg _ | .tup _ | .any | .undef => none
  | v => some (v, [])
def reifyL (g : Nat → Option Blk) : List AV → Option (List AV × List Nat)
  | [] => some ([], [])
  | c :: cs => match reify1 g c, reifyL g cs with
    | some (v, a), some (vs, b) => some (v :: vs, a ++ b)
    | _, _ => none
def reify (g : Nat → Option Blk) : AV → Option (AV × List Nat)
  | .agg cs => match reifyL g cs with | some (vs, a) => some (.agg vs, a) | none => none
  | v => reify1 g v
def reifyA (g : Nat → Option Blk) : List AV → Option (List AV × List Nat)
  | [] => some ([], [])
  | c :: cs => match reify g c, reifyA g cs with
    | some (v, a), some (vs, b) => some (v :: vs, a ++ b)
    | _, _ => none
def reifyR (g : Nat → Option Blk) : AV → Option (AV × List Nat)
  | .tup vs => match reifyA g vs with | some (us, a) => some (.tup us, a) | none => none
  | v => reify g v

/-- What a function value takes with it: a block of the call's own is stable from then on. -/
def plain1 : AV → Bool
  | .any | .own _ _ _ _ | .ptr _ _ | .map _ | .agg _ | .tup _ | .undef => false
  | _ => true
/-- What is a number, a truth or a text. -/
def scal1 : AV → Bool
  | .int _ _ | .bool _ | .str _ => true
  | _ => false
def cap1 (g : Nat → Option Blk) : AV → Option (AV × List Nat)
  | .ptr id off => match g id with
    | some (.obj cs) => if cs.all plain1 then some (.rptr cs off, [id]) else none
    | _ => none
  | v => reify1 g v
def capL (g : Nat → Option Blk) : List AV → Option (List AV × List Nat)
  | [] => some ([], [])
  | c :: cs => match cap1 g c, capL g cs with
    | some (v, a), some (vs, b) => some (v :: vs, a ++ b)
    | _, _ => none

def refs1 : AV → Bool
  | .row _ _ | .rptr _ _ | .clo _ _ => true
  | _ => false
def refs2 : AV → Bool
  | .agg cs => cs.any refs1
  | v => refs1 v
def refs : AV → Bool
  | .tup vs => vs.any refs2
  | v => refs2 v

structure Eff where
  v : AV
  sets : List (Nat × Blk)
  frs : List Nat

def pur (v : AV) : Option Eff := some ⟨v, [], []⟩

/-- Numbers. -/
def arith (op : BinOp) (k : IntKind) (a b : Int) : Option AV :=
  match op with
  | .add => some (.int k (k.wrap (a + b)))
  | .sub => some (.int k (k.wrap (a - b)))
  | .mul => some (.int k (k.wrap (a * b)))
  | .quo => if b = 0 then none else some (.int k (k.wrap (a.tdiv b)))
  | .rem => if b = 0 then none else some (.int k (a.tmod b))
  | .and => some (.int k (k.wrap (BitVec.ofInt k.bits a &&& BitVec.ofInt k.bits b).toNat))
  | .or => some (.int k (k.wrap (BitVec.ofInt k.bits a ||| BitVec.ofInt k.bits b).toNat))
  | .xor => some (.int k (k.wrap (BitVec.ofInt k.bits a ^^^ BitVec.ofInt k.bits b).toNat))
  | .andNot => some (.int k (k.wrap (BitVec.ofInt k.bits a &&& ~~~ BitVec.ofInt k.bits b).toNat))
  | .eql => some (.bool (a == b))
  | .neq => some (.bool (a != b))
  | .lss => some (.bool (a < b))
  | .leq => some (.bool (a ≤ b))
  | .gtr => some (.bool (a > b))
  | .geq => some (.bool (a ≥ b))
  | _ => none
def shiftA (op : BinOp) (k : IntKind) (a b : Int) : Option AV :=
  if b < 0 then none else
  match op with
  | .shl => some (.int k (k.wrap (a * 2 ^ (min b.toNat k.bits))))
  | .shr => some (.int k (a.fdiv (2 ^ (min b.toNat k.bits))))
  | _ => none
def strOp (op : BinOp) (x y : ByteArray) : Option AV :=
  match op with
  | .add => if ((x.size + y.size : Nat) : Int) > IntKind.i64.max then none else some (.str (x ++ y))
  | .eql => some (.bool (x.toList == y.toList))
  | .neq => some (.bool (!(x.toList == y.toList)))
  | .lss => some (.bool (Op.bytesLess x.toList y.toList))
  | _ => none
/-- Whether two values are equal, as the language holds them against each other. -/
def eqFs (f : TypeId → AV → AV → Option Bool) (P : Program) (xs ys : List AV) : List Field → Option Bool
  | [] => some true
  | g :: r => if g.name = "_" then none else match partK xs g.offset (kindT P g.type), partK ys g.offset (kindT P g.type) with
    | some a, some b => (match f g.type a b, eqFs f P xs ys r with | some p, some q => some (p && q) | _, _ => none)
    | _, _ => none
def eqIs (f : AV → AV → Option Bool) (k : Option (Nat × Bool)) (sz : Nat) (xs ys : List AV) : List Nat → Option Bool
  | [] => some true
  | i :: r => match partK xs (i * sz) k, partK ys (i * sz) k with
    | some a, some b => (match f a b, eqIs f k sz xs ys r with | some p, some q => some (p && q) | _, _ => none)
    | _, _ => none
def eqA (P : Program) : Nat → TypeId → AV → AV → Option Bool
  | 0, _, _, _ => none
  | d + 1, t, x, y => match P.underlying t, x, y with
    | some (.int _), .int k a, .int k' b => if k = k' then some (a == b) else none
    | some .bool, .bool a, .bool b => some (a == b)
    | some (.struct fs), .agg xs, .agg ys => if P.stoodInHeld t then none else eqFs (eqA P d) P xs ys fs.toList
    | some (.array n e), .agg xs, .agg ys => if (P.info? e).isSome then eqIs (eqA P d e) (kindT P e) (sizeT P e) xs ys (List.range n) else none
    | _, _, _ => none
/-- Whether a slice is nil, if that can be told. -/
def nilQ : AV → Option Bool
  | .nil => some true
  | .row n _ => if 0 < n then some false else none
  | .own _ _ n _ => if 0 < n then some false else none
  | _ => none
def nilOp (op : BinOp) (b : Bool) : Option AV :=
  match op with | .eql => some (.bool b) | .neq => some (.bool !b) | _ => none
def binA (P : Program) (op : BinOp) (t : TypeId) (x y : AV) : Option AV :=
  match x, y with
  | .int k a, .int k' b =>
    match op with
    | .shl | .shr => shiftA op k a b
    | _ => if k = k' then arith op k a b else none
  | .str a, .str b => strOp op a b
  | .bool a, .bool b =>
    match tdesc P t with
    | .bool => (match op with | .eql => some (.bool (a == b)) | .neq => some (.bool (!(a == b))) | _ => none)
    | _ => none
  | .agg xs, .agg ys => if P.eqGuardType P.depth t then none else (match eqA P 8 t (.agg xs) (.agg ys) with | some b => nilOp op b | none => none)
  | x, .nil =>
    match tdesc P t, nilQ x with
    | .slice _ _ _ _, some b => nilOp op b
    | _, _ => none
  | _, _ => none
def unA (op : UnOp) (x : AV) : Option AV :=
  match op, x with
  | .neg, .int k n => some (.int k (k.wrap (0 - n)))
  | .xor, .int k n => some (.int k (k.wrap (BitVec.ofInt k.bits (if k.signed then -1 else k.max) ^^^ BitVec.ofInt k.bits n).toNat))
  | .not, .bool b => some (.bool !b)
  | _, _ => none

/-- What is written into cells from a place on. -/
def splice (cs : List AV) (off : Nat) : List AV → List AV
  | [] => cs
  | v :: vs => splice (cs.set off v) (off + 1) vs

def fillA (place : Nat → Option (Nat × Nat)) (cells : List AV) : List (Nat × List AV) → Option (List AV)
  | [] => some cells
  | (i, vs) :: rest =>
    match place i with
    | none => none
    | some (off, size) => if vs.length = size ∧ off + size ≤ cells.length then fillA place (splice cells off vs) rest else none

def cellsL (lk : Operand → AV) : List (Nat × Operand) → Option (List (Nat × List AV))
  | [] => some []
  | (i, x) :: r => match (lk x).cells, cellsL lk r with
    | some cs, some l => some ((i, cs) :: l)
    | _, _ => none

def cellsR (g : Nat → Option Blk) (lk : Operand → AV) : List (Nat × Operand) → Option (List (Nat × List AV) × List Nat)
  | [] => some ([], [])
  | (i, x) :: r => match reify g (lk x), cellsR g lk r with
    | some (v, a), some (l, b) => (match v.cells with | some cs => some ((i, cs) :: l, a ++ b) | none => none)
    | _, _ => none

/-- A bound of a slice: a number, from nought up to `top`. -/
def bound (lk : Operand → AV) (dflt : Nat) (top : Nat) : Option Operand → Option Nat
  | none => some dflt
  | some x => match lk x with
    | .int _ n => if 0 ≤ n ∧ n ≤ (top : Int) then some n.toNat else none
    | _ => none

def maxSize : Nat := 140737488355328
def maxApp : Nat := 140737488355328
def maxMem : Nat := 281474976710656

def isBytes : List AV → Option (List Int)
  | [] => some []
  | .int .u8 n :: r => (isBytes r).map (n :: ·)
  | _ => none
def bytesOf (ns : List Int) : ByteArray := ⟨(ns.map fun n => UInt8.ofNat n.toNat).toArray⟩

/-- The numbers of the blocks that a value names. -/
def ids1 : AV → List Nat
  | .own id _ _ _ | .ptr id _ | .map id => [id]
  | _ => []
def ids2 : AV → List Nat
  | .agg cs => cs.flatMap ids1
  | v => ids1 v
def idsV : AV → List Nat
  | .tup vs => vs.flatMap ids2
  | v => ids2 v
def idsB : Option Blk → List Nat
  | some (.obj cs) => cs.flatMap ids1
  | _ => []
def addNew (acc : List Nat) : List Nat → List Nat
  | [] => acc
  | i :: r => addNew (if acc.contains i then acc else acc ++ [i]) r
/-- From some numbers on, all that these blocks name, too. -/
def reach (g : Nat → Option Blk) : Nat → List Nat → List Nat
  | 0, l => l
  | k + 1, l => let l' := addNew l (l.flatMap fun i => idsB (g i)); if l'.length = l.length then l else reach g k l'
/-- Names anew: the number in a list is the new number. -/
def ren1 (f : Nat → Option Nat) : AV → AV
  | .own id off n sz => match f id with | some j => .own j off n sz | none => .any
  | .ptr id off => match f id with | some j => .ptr j off | none => .any
  | .map id => match f id with | some j => .map j | none => .any
  | v => v
def ren2 (f : Nat → Option Nat) : AV → AV
  | .agg cs => .agg (cs.map (ren1 f))
  | v => ren1 f v
def ren (f : Nat → Option Nat) : AV → AV
  | .tup vs => .tup (vs.map (ren2 f))
  | v => ren2 f v
def renB (f : Nat → Option Nat) : Blk → Blk
  | .obj cs => .obj (cs.map (ren1 f))
  | b => b
def pos? : List Nat → Nat → Option Nat
  | [], _ => none
  | a :: r, i => if a = i then some 0 else (pos? r i).map (· + 1)
def nodupB : List Nat → Bool
  | [] => true
  | i :: r => !r.contains i && nodupB r
/-- A state where some slots alone are kept, and the blocks that these reach, numbered anew. -/
def keepL (keep : List Nat) : Nat → List AV → List AV
  | _, [] => []
  | i, v :: r => (if keep.contains i then v else .any) :: keepL keep (i + 1) r
def upto : Nat → List Nat
  | 0 => []
  | n + 1 => upto n ++ [n]
def canon (base : Nat) (keep : List Nat) (s : AS) : AS :=
  let tm := keepL keep 0 s.tmps
  let l := reach (s.heap[·]?) 4 (addNew (upto base) (tm.flatMap idsV))
  { tmps := tm.map (ren (pos? l)), heap := l.map fun i => renB (pos? l) (s.heap.getD i .gone), frz := l.map fun i => s.frz.getD i false }

structure Env where
  P : Program
  /-- which functions are called by reference -/
  ref : FuncId → Bool
  call : FuncId → List AV → Option AV
  callR : FuncId → List AV → List Blk → List Bool → Option (AV × List Blk × List Bool)
  keep : Nat → List Nat
  /-- of a drawn region's operations: what made by it they may see, against whom they are held, whether they are noted -/
  dep : Nat → List (List Nat × List Nat × Bool)
  /-- what a function value yields to whoever ranges over it -/
  seq : FuncId → List AV → Option (List (List AV))

/-- A call that is handed the call's own blocks. -/
def backOf (l : List Nat) (new : List Nat) (slot : Nat) (j : Nat) : Option Nat := if j < l.length then l[j]? else if new.contains j then some slot else none
def writeBack (l new : List Nat) (slot : Nat) (h : List Blk) : Nat → List Nat → List (Nat × Blk)
  | _, [] => new.map fun j => (slot, renB (backOf l new slot) (h.getD j .gone))
  | j, i :: r => (i, renB (backOf l new slot) (h.getD j .gone)) :: writeBack l new slot h (j + 1) r
def frzBack (l new : List Nat) (slot : Nat) : Nat → List Bool → List Nat
  | _, [] => []
  | j, b :: r => (if b then (backOf l new slot j).toList else []) ++ frzBack l new slot (j + 1) r
def liveB : Option Blk → Bool
  | some (.arr _) | some (.obj _) | some (.map _) | some .gone => true
  | _ => false
def isF : Operand → Bool
  | .func _ => true
  | _ => false
def refCall (E : Env) (f : FuncId) (args : List AV) (g : Nat → Option Blk) (fz : Nat → Bool) (slot : Nat) : Option Eff :=
  let l := reach g 4 (addNew [] (args.flatMap idsV))
  if !(l.all (fun i => liveB (g i)) && nodupB l && !l.contains slot) then none else
  match E.callR f (args.map (ren (pos? l))) (l.map fun i => renB (pos? l) ((g i).getD .gone)) (l.map fz) with
  | none => none
  | some (v, h, z) =>
    let new := (addNew [] (idsV v)).filter fun j => l.length ≤ j
    match new with
    | _ :: _ :: _ => none
    | _ => some ⟨ren (backOf l new slot) v, writeBack l new slot h 0 l, frzBack l new slot 0 z⟩

/-- Maps: keys are numbers, truths, texts, and structs of numbers. -/
def keyFs (f : TypeId → AV → Bool) (P : Program) (xs : List AV) : List Field → Bool
  | [] => true
  | g :: r => (g.name != "_") && (match partK xs g.offset (kindT P g.type) with | some a => f g.type a | none => false) && keyFs f P xs r
def keyA (P : Program) : Nat → TypeId → AV → Bool
  | 0, _, _ => false
  | d + 1, t, x => match P.underlying t, x with
    | some (.int k), .int k' _ => k == k'
    | some .bool, .bool _ => true
    | some .string, .str _ => true
    | some (.struct fs), .agg xs => keyFs (keyA P d) P xs fs.toList
    | _, _ => false
def keyS : AV → Bool
  | .agg xs => xs.all scal1
  | x => scal1 x
def eqK (P : Program) (t : TypeId) (x y : AV) : Option Bool :=
  match x, y with
  | .int k a, .int k' b => if k = k' then some (a == b) else none
  | .bool a, .bool b => some (a == b)
  | .str a, .str b => some (a == b)
  | .agg xs, .agg ys => eqA P 8 t (.agg xs) (.agg ys)
  | _, _ => none
def sameS1 : AV → AV → Bool
  | .int k a, .int k' b => k == k' && a == b
  | .bool a, .bool b => a == b
  | .str a, .str b => a == b
  | _, _ => false
def sameSL : List AV → List AV → Bool
  | [], [] => true
  | a :: r, b :: s => sameS1 a b && sameSL r s
  | _, _ => false
def sameS : AV → AV → Bool
  | .agg xs, .agg ys => sameSL xs ys
  | x, y => sameS1 x y
def findA (P : Program) (t : TypeId) (x : AV) : List (AV × AV) → Nat → Option (Option (Nat × AV × AV))
  | [], _ => some none
  | (k, v) :: r, i => match eqK P t x k with
    | some true => some (some (i, k, v))
    | some false => findA P t x r (i + 1)
    | none => none
/-- What is appended. -/
def srcA (g : Nat → Option Blk) (sz : Nat) (y : AV) : Option (Nat × List AV) :=
  match y with
  | .nil => some (0, [])
  | .row m ds => if ds.length = m * sz then some (m, ds) else none
  | .own id off m sz' => (match g id with | some (.arr ds) => if sz' = sz ∧ off + m * sz ≤ ds.length then some (m, (ds.drop off).take (m * sz)) else none | _ => none)
  | _ => none
/-- An append: what it was appended to goes, and lies in another slot from then on. -/
def appA (g : Nat → Option Blk) (fz : Nat → Bool) (slot sz bytes : Nat) (x : AV) (m : Nat) (ds : List AV) : Option Eff :=
  match x with
  | .nil => if m * bytes ≤ maxApp ∧ m ≤ maxSize then some ⟨.own slot 0 m sz, [(slot, .arr ds)], []⟩ else none
  | .own id off n sz' =>
    if off = 0 ∧ fz id = false then (match g id with
      | some (.arr cs) => if sz' = sz ∧ n * sz ≤ cs.length ∧ (n + m) * bytes ≤ maxApp ∧ n + m ≤ maxSize then some ⟨.own slot 0 (n + m) sz, [(id, .gone), (slot, .arr (cs.take (n * sz) ++ ds))], []⟩ else none
      | _ => none) else none
  | _ => none
/-- What an operation does: its value, the blocks that it writes, those that it freezes. -/
def eff (E : Env) (v : Operand → AV) (g : Nat → Option Blk) (fz : Nat → Bool) (slot : Nat) (o : Op) : Option Eff :=
  match o with
  | .move x | .assign x => pur (v x)
  | .pick c a b =>
    match v c with
    | .bool c => (match v a, v b with | .bool x, .bool y => pur (.bool (if c then x else y)) | x, y => pur (if c then x else y))
    | _ => none
  | .alloc t =>
    match tdesc E.P t with
    | .array _ _ _ z _ => some ⟨.ptr slot 0, [(slot, .arr z)], []⟩
    | .struct _ z _ => if z.all scal1 then some ⟨.ptr slot 0, [(slot, .arr z)], []⟩ else some ⟨.ptr slot 0, [(slot, .obj z)], []⟩
    | .other => none
    | _ => if okT E.P t then some ⟨.ptr slot 0, [(slot, .obj (zeroT E.P t))], []⟩ else none
  | .box t x =>
    match tdesc E.P t with
    | .array _ _ _ _ _ => (match reify g (v x) with | some (.agg cs, f) => some ⟨.ptr slot 0, [(slot, .arr cs)], f⟩ | _ => none)
    | .struct _ z _ => if z.all scal1 then (match reify g (v x) with | some (.agg cs, f) => some ⟨.ptr slot 0, [(slot, .arr cs)], f⟩ | _ => none) else (match (v x).cells with | some cs => some ⟨.ptr slot 0, [(slot, .obj cs)], []⟩ | none => none)
    | _ => (match (v x).cells with | some cs => some ⟨.ptr slot 0, [(slot, .obj cs)], []⟩ | none => none)
  | .build t parts =>
    match tdesc E.P t, cellsL v parts.toList with
    | .struct _ z fs, some l => (match fillA (fun i => (fs[i]?).map fun f => (f.1, f.2.1)) z l with | some cs => pur (.agg cs) | none => none)
    | .array _ sz _ z _, some l => (match fillA (fun i => some (i * sz, sz)) z l with | some cs => pur (.agg cs) | none => none)
    | _, _ => none
  | .buildSlice t len parts =>
    match tdesc E.P t, cellsR g v parts.toList with
    | .slice _ sz _ z, some (l, f) =>
      if len * sz ≤ 2 ^ 24 then
        match fillA (fun i => some (i * sz, sz)) (List.replicate len z).flatten l with
        | some cs => some ⟨.own slot 0 len sz, [(slot, .arr cs)], f⟩
        | none => none
      else none
    | _, _ => none
  | .load t a =>
    match v a with
    | .ptr id off => (match g id with
        | some b => (match b.cells with | some cs => (match partK cs off (kindT E.P t) with | some r => pur r | none => none) | none => none)
        | none => none)
    | .rptr cs off => (match partK cs off (kindT E.P t) with | some r => pur r | none => none)
    | _ => none
  | .store t a x =>
    match v a with
    | .ptr id off => if !fz id then (match g id with
        | some (.obj cs) => (match (v x).cells with
          | some vs => if (kindT E.P t).map (·.1) = some vs.length ∧ off + vs.length ≤ cs.length then some ⟨.undef, [(id, .obj (splice cs off vs))], []⟩ else none
          | none => none)
        | some (.arr cs) => (match reify g (v x) with
          | some (r, f) => (match r.cells with
            | some vs => if (kindT E.P t).map (·.1) = some vs.length ∧ off + vs.length ≤ cs.length ∧ f.contains id = false then some ⟨.undef, [(id, .arr (splice cs off vs))], f⟩ else none
            | none => none)
          | none => none)
        | _ => none) else none
    | _ => none
  | .nilCheck x => (match v x with | .ptr id off => pur (.ptr id off) | .rptr cs off => pur (.rptr cs off) | .fn f => pur (.fn f) | _ => none)
  | .binOp op t x y _ => (match binA E.P op t (v x) (v y) with | some r => pur r | none => none)
  | .unOp op _ x => (match unA op (v x) with | some r => pur r | none => none)
  | .convert src dst x =>
    match tdesc E.P src, tdesc E.P dst, v x with
    | .int _, .int k, .int _ n => pur (.int k (k.wrap n))
    | .str, .str, .str b => pur (.str b)
    | .str, .slice e _ _ _, .str b =>
      match tdesc E.P e with
      | .int .u8 => if b.size ≤ maxSize then pur (.row b.size (b.data.toList.map fun c => .int .u8 c.toNat)) else none
      | _ => none
    | .slice e _ _ _, .str, x =>
      match tdesc E.P e, reify1 g x with
      | .int .u8, some (.row n cs, _) => if n = cs.length then (match isBytes cs with | some b => pur (.str (bytesOf b)) | none => none) else none
      | .int .u8, some (.nil, _) => pur (.str .empty)
      | _, _ => none
    | _, _, _ => none
  | .makeSlice t l c =>
    match tdesc E.P t, v l, v c with
    | .slice _ sz bytes z, .int _ l, .int _ c =>
      if 0 ≤ l ∧ l ≤ c ∧ c.toNat * bytes ≤ maxMem ∧ c.toNat ≤ maxSize then some ⟨.own slot 0 l.toNat sz, [(slot, .arr (List.replicate l.toNat z).flatten)], []⟩ else none
    | _, _, _ => none
  | .slice t x lo hi mx =>
    match v x with
    | .str b =>
      match tdesc E.P t, mx with
      | .str, none => (match bound v b.size b.size hi with
        | some h => (match bound v 0 h lo with | some l => pur (.str (b.extract l h)) | none => none)
        | none => none)
      | _, _ => none
    | .own id off n sz' =>
      match tdesc E.P t, mx with
      | .slice _ sz _ _, none => (match bound v n n hi with
        | some h => (match bound v 0 h lo with | some l => if sz' = sz then pur (.own id (off + l * sz) (h - l) sz) else none | none => none)
        | none => none)
      | _, _ => none
    | .row n cs =>
      match tdesc E.P t, mx with
      | .slice _ sz _ _, none => (match bound v n n hi with
        | some h => (match bound v 0 h lo with | some l => pur (.row (h - l) ((cs.drop (l * sz)).take ((h - l) * sz))) | none => none)
        | none => none)
      | _, _ => none
    | .nil =>
      match tdesc E.P t with
      | .slice _ _ _ _ => (match bound v 0 0 hi, bound v 0 0 lo, mx with | some _, some _, none => pur .nil | _, _, _ => none)
      | _ => none
    | .ptr id off =>
      match tdesc E.P t, mx with
      | .array n sz _ _ _, none => (match bound v n n hi with
        | some h => (match bound v 0 h lo with
          | some l => (match g id with | some (.arr cs) => if off + n * sz ≤ cs.length then pur (.own id (off + l * sz) (h - l) sz) else none | _ => none)
          | none => none)
        | none => none)
      | _, _ => none
    | _ => none
  | .fieldAddr t x f =>
    match tdesc E.P t, v x with
    | .struct _ _ fs, .ptr id off => (match fs[f]? with | some (o, _) => pur (.ptr id (off + o)) | none => none)
    | .struct _ _ fs, .rptr cs off => (match fs[f]? with | some (o, _) => pur (.rptr cs (off + o)) | none => none)
    | _, _ => none
  | .field t x f =>
    match tdesc E.P t, v x with
    | .struct _ _ fs, .agg cs => (match fs[f]? with | some (o, n, a) => (match partA cs o n a with | some r => pur r | none => none) | none => none)
    | _, _ => none
  | .indexAddr t x i =>
    match tdesc E.P t, v x, v i with
    | .slice _ sz _ _, .own id off n sz', .int _ i => if 0 ≤ i ∧ i < (n : Int) ∧ sz' = sz then pur (.ptr id (off + i.toNat * sz)) else none
    | .slice _ sz _ _, .row n cs, .int _ i => if 0 ≤ i ∧ i < (n : Int) then pur (.rptr cs (i.toNat * sz)) else none
    | .array n sz _ _ _, .ptr id off, .int _ i => if 0 ≤ i ∧ i < (n : Int) then pur (.ptr id (off + i.toNat * sz)) else none
    | .array n sz _ _ _, .rptr cs off, .int _ i => if 0 ≤ i ∧ i < (n : Int) then pur (.rptr cs (off + i.toNat * sz)) else none
    | _, _, _ => none
  | .index t x i =>
    match tdesc E.P t, v x, v i with
    | .str, .str b, .int _ i => if 0 ≤ i then (match b.data[i.toNat]? with | some c => pur (.int .u8 c.toNat) | none => none) else none
    | .array n sz _ _ a, .agg cs, .int _ i => if 0 ≤ i ∧ i < (n : Int) then (match partA cs (i.toNat * sz) sz a with | some r => pur r | none => none) else none
    | _, _, _ => none
  | .makeMap t r =>
    match tdesc E.P t, r.map v with
    | .map _ _ _, none | .map _ _ _, some (.int _ _) => some ⟨.map slot, [(slot, .map [])], []⟩
    | _, _ => none
  | .lookup t x i ok =>
    match tdesc E.P t, v x with
    | .map k _ zz, .map id => (match g id with
      | some (.map es) => if keyA E.P 8 k (v i) && keyS (v i) then (match findA E.P k (v i) es 0 with
        | some (some (_, _, a)) => pur (if ok then .tup [a, .bool true] else a)
        | some none => pur (if ok then .tup [zz, .bool false] else zz)
        | none => none) else none
      | _ => none)
    | _, _ => none
  | .mapUpdate t m i x | .insert t m i x =>
    match tdesc E.P t, v m with
    | .map k _ _, .map id => if !fz id then (match g id with
      | some (.map es) => if keyA E.P 8 k (v i) && keyS (v i) then (match reify g (v x) with
        | some (a, f) => if f.contains id then none else (match findA E.P k (v i) es 0 with
          | some (some (j, k0, _)) => if sameS k0 (v i) then some ⟨.undef, [(id, .map (es.set j (v i, a)))], f⟩ else none
          | some none => some ⟨.undef, [(id, .map (es ++ [(v i, a)]))], f⟩
          | none => none)
        | none => none) else none
      | _ => none) else none
    | _, _ => none
  | .extract x i => (match v x with | .tup vs => (match vs[i]? with | some r => pur r | none => none) | _ => none)
  | .makeFunc f first cap =>
    match f, first.size with
    | .func f, 0 => (match capL g (cap.toList.map v) with | some (cs, fr) => some ⟨.clo f cs, [], fr⟩ | none => none)
    | _, _ => none
  | .call c =>
    match c.callee with
    | .value f =>
      match v f with
      | .fn f' =>
        if isF f && E.ref f' then refCall E f' (c.args.toList.map v) g fz slot
        else match reifyA g (c.args.toList.map v) with
          | some (as, f) => (match E.call f' as with | some r => some ⟨r, [], if refs r then f else []⟩ | none => none)
          | none => none
      | .clo f' cs => (match reifyA g (c.args.toList.map v) with
          | some (as, f) => (match E.call f' (as ++ cs) with | some r => some ⟨r, [], if refs r then f else []⟩ | none => none)
          | none => none)
      | _ => none
    | .builtin .min =>
      match c.args.toList.map v with
      | [.int k a, .int _ b] => pur (.int k (if b < a then b else a))
      | _ => none
    | .builtin .max =>
      match c.args.toList.map v with
      | [.int k a, .int _ b] => pur (.int k (if b > a then b else a))
      | _ => none
    | .builtin .len =>
      match c.args.toList.map v, c.argTypes.toList.map (tdesc E.P) with
      | [.row n _], [.slice ..] => pur (.int .i64 n)
      | [.own _ _ n _], [.slice ..] => pur (.int .i64 n)
      | [.nil], [.slice ..] => pur (.int .i64 0)
      | [.str b], [.str] => pur (.int .i64 b.size)
      | _, _ => none
    | .builtin .append =>
      match c.args.toList.map v, c.argTypes.toList with
      | [x, y], [t, t'] =>
        match (if t = t' then tdesc E.P t else .other) with
        | .slice _ sz bytes _ => (match srcA g sz y with
          | none => none
          | some (m, ds) => appA g fz slot sz bytes x m ds)
        | _ => none
      | _, _ => none
    | .builtin .copy =>
      match c.args.toList.map v, c.argTypes.toList with
      | [x, y], [t, t'] =>
        match (if t = t' then tdesc E.P t else .other), x with
        | .slice _ sz _ _, .own id off n sz' =>
          (match srcA g sz y with
          | some (m, ds) => if !fz id then (match g id with
              | some (.arr cs) => if sz' = sz ∧ m = n ∧ n ≠ 0 ∧ off + n * sz ≤ cs.length then some ⟨.int .i64 n, [(id, .arr (splice cs off ds))], []⟩ else none
              | _ => none) else none
          | none => none)
        | _, _ => none
      | _, _ => none
    | _ => none
  | _ => none

/-- Whether an operation is done: a guard's word. -/
def wantA (ops : List Oper) (tm : List AV) (o : Oper) : Option Bool :=
  match o.guard with
  | none => some true
  | some (j, w) => match (ops[j]?).bind (·.dst) with
    | none => some false
    | some d => match tm.getD d .undef with
      | .bool b => some (b == w)
      | .undef => some false
      | _ => none

def isAlloc (ref : FuncId → Bool) : Op → Bool
  | .alloc _ | .box .. | .buildSlice .. | .makeSlice .. | .makeMap .. => true
  | .call { callee := .builtin .append, .. } => true
  | .call { callee := .value (.func f), .. } => ref f
  | _ => false
def setAll (h : List Blk) : List (Nat × Blk) → List Blk
  | [] => h
  | (i, b) :: r => setAll (h.set i b) r
def frzAll (z : List Bool) : List Nat → List Bool
  | [] => z
  | i :: r => frzAll (z.set i true) r
def seen (vis : Nat → Bool) (h : List Blk) (i : Nat) : Option Blk := if vis i then h[i]? else none
def frozenA (vis : Nat → Bool) (z : List Bool) (i : Nat) : Bool := !vis i || z.getD i false
def stepA (E : Env) (ops : List Oper) (vis : Nat → Bool) (slot : Nat) (o : Oper) (s : AS) : Option AS :=
  match wantA ops s.tmps o with
  | none => none
  | some false => some { s with tmps := putT s.tmps o.dst .undef }
  | some true => match eff E (lookA s.tmps) (seen vis s.heap) (frozenA vis s.frz) slot o.op with
    | none => none
    | some e => some { tmps := putT s.tmps o.dst e.v, heap := setAll s.heap e.sets, frz := frzAll s.frz e.frs }

/-- What an operation may see of what a drawn region makes. -/
def visD (n0 : Nat) (d : List Nat) (i : Nat) : Bool := i < n0 || d.contains (i - n0)
/-- The operations of a region, one behind the other, as they stand in the text. -/
def runL (E : Env) (ops : List Oper) : Nat → List Oper → AS → Option AS
  | _, [], s => some s
  | slot, o :: r, s => match stepA E ops (fun _ => true) slot o s with
    | none => none
    | some s' => runL E ops (if isAlloc E.ref o.op then slot + 1 else slot) r s'
/-- The blocks that an operation names. -/
def footA (lk : Operand → AV) (op : Op) : List Nat := op.operands.toList.flatMap fun x => idsV (lk x)
def disj (l m : List Nat) : Bool := l.all fun i => !m.contains i
def heldOk (log : List (Nat × List Nat)) (chk f : List Nat) : Bool := log.all fun p => !chk.contains p.1 || disj p.2 f
def runD (E : Env) (ops : List Oper) (n0 : Nat) : Nat → Nat → List (Nat × List Nat) → List (List Nat × List Nat × Bool) → List Oper → AS → Option AS
  | _, _, _, _, [], s => some s
  | i, slot, log, d, o :: r, s =>
    let t := d.headD ([], [], false)
    if heldOk log t.2.1 (footA (lookA s.tmps) o.op) then
      match stepA E ops (visD n0 t.1) slot o s with
      | none => none
      | some s' => runD E ops n0 (i + 1) (if isAlloc E.ref o.op then slot + 1 else slot) (if t.2.2 then (i, footA (lookA s.tmps) o.op) :: log else log) d.tail r s'
    else none
def nAlloc (ref : FuncId → Bool) : List Oper → Nat
  | [] => 0
  | o :: r => nAlloc ref r + (if isAlloc ref o.op then 1 else 0)
def widen (k : Nat) (s : AS) : AS := { s with heap := s.heap ++ List.replicate k .dead, frz := s.frz ++ List.replicate k false }
def runRegion (E : Env) (id : Nat) (ops : List Oper) (draw : Bool) (s : AS) : Option AS :=
  if draw then runD E ops s.heap.length 0 s.heap.length [] (E.dep id) ops (widen (nAlloc E.ref ops) s)
  else runL E ops s.heap.length ops (widen (nAlloc E.ref ops) s)

inductive Out where
  | normal | ret | exit (id : Nat)
  deriving DecidableEq

def loopN (f : AS → Option (Out × AS)) (can : AS → AS) : Nat → AS → Option (Out × AS)
  | 0, _ => none
  | n + 1, s => match f (can s) with
    | some (.normal, s') => loopN f can n s'
    | r => r

def firstR : Code → Nat
  | .region id _ _ => id
  | .seq a _ => firstR a
  | .block _ a => firstR a
  | .loop a => firstR a
  | _ => 0

def putAll (tm : List AV) : List Tmp → List AV → List AV
  | t :: ts, v :: vs => putAll (tm.set t v) ts vs
  | _, _ => tm
/-- The rounds of a range over a function. -/
def rounds (f : Nat → AS → Option (Out × AS)) (can : AS → AS) (ps : List Tmp) : List (List AV) → AS → Option (Out × AS)
  | [], s => some (.normal, s)
  | xs :: r, s =>
    match f (can s).heap.length { can s with tmps := putAll (can s).tmps ps xs } with
    | some (.normal, s2) => rounds f can ps r { can s with heap := s2.heap, frz := s2.frz }
    | some (o, s2) => some (o, { can s with heap := s2.heap, frz := s2.frz })
    | none => none

def exec (E : Env) (N : Nat) : Nat → Code → AS → Option (Out × AS)
  | _, .skip, s => some (.normal, s)
  | _, .ret, s => some (.ret, s)
  | _, .exit id, s => some (.exit id, s)
  | base, .seq a b, s => match exec E N base a s with
    | some (.normal, s') => exec E N base b s'
    | r => r
  | base, .cond c x y, s => match lookA s.tmps c with
    | .bool b => if b then exec E N base x s else exec E N base y s
    | _ => none
  | base, .block id a, s => match exec E N base a s with
    | some (.exit j, s') => if j = id then some (.normal, s') else some (.exit j, s')
    | r => r
  | base, .loop a, s => loopN (exec E N base a) (canon base (E.keep (firstR a))) N s
  | _, .region id ops draw, s => match runRegion E id ops.toList draw s with
    | some s' => some (.normal, s')
    | none => none
  | base, .rangeFunc f ps a b, s => match lookA s.tmps f with
    | .clo g cs => match E.seq g cs with
      | some xss => if xss.all (fun xs => xs.length == ps.size) then rounds (fun n s => match exec E N n a s with | some (.normal, s') => exec E N n b s' | _ => none) (canon base (E.keep (firstR b))) ps.toList xss s else none
      | none => none
    | _ => none
  | _, _, _ => none

def resA (P : Program) (s : AS) : List ResultVar → Option (List AV)
  | [] => some []
  | .tmp t :: r => match s.tmps.getD t .undef with
    | .tup _ => none
    | v => (resA P s r).map (v :: ·)
  | .cell a t :: r => match s.tmps.getD a .undef with
    | .ptr id off => (match s.heap[id]? with
      | some b => (match b.cells with | some cs => (match partK cs off (kindT P t) with | some v => (resA P s r).map (v :: ·) | none => none) | none => none)
      | none => none)
    | _ => none
def oneOr : List AV → AV
  | [v] => v
  | l => .tup l

def startA (fn : Func) (args : List AV) (h : List Blk) (z : List Bool) : AS :=
  { tmps := args ++ List.replicate (fn.ntmps - args.length) .undef, heap := h, frz := z }

def body (E : Env) (N : Nat) (fn : Func) (args : List AV) (h : List Blk) (z : List Bool) : Option (AV × List Blk × List Bool) :=
  match fn.body with
  | none => none
  | some c => match exec E N h.length c (startA fn args h z) with
    | some (.normal, s) | some (.ret, s) => (match resA E.P s fn.results.toList with | some vs => some (oneOr vs, s.heap, s.frz) | none => none)
    | _ => none

/-- By value: arguments and result hold nothing of the call's own. -/
def bodyV (E : Env) (N : Nat) (fn : Func) (args : List AV) : Option AV :=
  match body E N fn args [] [] with
  | some (v, h, _) => (reifyR (h[·]?) v).map (·.1)
  | none => none

/-- All calls, down to a depth; `prim`: functions that are told, not run. -/
def envK (P : Program) (ref : FuncId → Bool) (prim : FuncId → Option (List AV → List Blk → List Bool → Option (AV × List Blk × List Bool))) (keep : FuncId → Nat → List Nat) (dep : FuncId → Nat → List (List Nat × List Nat × Bool)) : Nat → FuncId → Env
  | 0, f => ⟨P, ref, fun _ _ => none, fun _ _ _ _ => none, keep f, dep f, fun _ _ => none⟩
  | k + 1, f => ⟨P, ref,
      fun g as => match P.funcs[g]? with | some fn => bodyV (envK P ref prim keep dep k g) k fn as | none => none,
      fun g as h z => match prim g with
        | some p => p as h z
        | none => match P.funcs[g]? with | some fn => body (envK P ref prim keep dep k g) k fn as h z | none => none,
      keep f, dep f, fun _ _ => none⟩
/-- slices.Clone: cells of its own. -/
def cloneR (sz : Nat) (as : List AV) (h : List Blk) (z : List Bool) : Option (AV × List Blk × List Bool) :=
  match as with
  | [a] => (match reify1 (h[·]?) a with
    | some (.row n cs, _) => if cs.length = n * sz ∧ n ≤ 2 ^ 40 then some (.own h.length 0 n sz, h ++ [.arr cs], z ++ [false]) else none
    | some (.nil, _) => some (.nil, h, z)
    | _ => none)
  | _ => none

/-! What is asked of a drawn region's operations. -/
inductive Cls where | n | a | h | w
  deriving DecidableEq
def cls (ref : FuncId → Bool) : Op → Cls
  | .move _ | .assign _ | .pick .. | .nilCheck _ | .binOp .. | .unOp .. | .fieldAddr .. | .field .. | .indexAddr .. | .index .. | .extract .. | .build .. => .n
  | .alloc _ | .makeSlice .. | .makeMap .. => .a
  | .load .. | .box .. | .buildSlice .. | .convert .. | .slice .. | .lookup .. => .h
  | .call { callee := .builtin .len, .. } => .n
  | .call { callee := .builtin .min, .. } => .n
  | .call { callee := .builtin .max, .. } => .n
  | .call { callee := .value (.func f), .. } => if ref f then .w else .h
  | .call { callee := .value _, .. } => .h
  | _ => .w
def clash : Cls → Cls → Bool
  | .w, .w | .w, .h | .h, .w => true
  | _, _ => false
def predsOf (o : Oper) : List Nat := o.after.toList.filterMap fun e => if Region.binds .any e then some e.on else none
def closureL : List (List Nat) → List Oper → List (List Nat)
  | acc, [] => acc
  | acc, o :: r => closureL (acc ++ [addNew [] (predsOf o ++ (predsOf o).flatMap fun j => acc.getD j [])]) r
def slotsOf (ref : FuncId → Bool) : Nat → List Oper → List Nat
  | _, [] => []
  | k, o :: r => k :: slotsOf ref (if isAlloc ref o.op then k + 1 else k) r
def pairOk (ref : FuncId → Bool) (ops : List Oper) (x y : Oper) : Bool := Oper.apart ops.toArray x y && !clash (cls ref x.op) (cls ref y.op)
def isRefC (ref : FuncId → Bool) : Op → Bool
  | .call { callee := .value (.func f), .. } => ref f
  | _ => false
/-- Of two operations of which neither waits for the other: that they get along, or are held against each other. -/
def okR (ref : FuncId → Bool) (ops : List Oper) (dep : List (List Nat × List Nat × Bool)) : Bool :=
  let B := closureL [] ops
  let sl := slotsOf ref 0 ops
  (List.range ops.length).all fun i => match ops[i]? with
    | none => true
    | some o =>
      (predsOf o).all (· < i) &&
      (List.range i).all (fun j => (B.getD i []).contains j || (match ops[j]? with
        | some o' => pairOk ref ops o' o || (Oper.apart ops.toArray o' o && !isRefC ref o.op && !isRefC ref o'.op && (dep.getD i ([], [], false)).2.1.contains j && (dep.getD j ([], [], false)).2.2)
        | none => true)) &&
      (dep.getD i ([], [], false)).1.all fun x => (B.getD i []).any fun j => sl.getD j 0 == x && (match ops[j]? with | some o' => isAlloc ref o'.op | none => false)
def noRF : Code → Bool
  | .seq a b | .cond _ a b => noRF a && noRF b
  | .block _ a | .loop a | .scope a => noRF a
  | .rangeFunc .. => false
  | _ => true
def okC (ref : FuncId → Bool) (dep : Nat → List (List Nat × List Nat × Bool)) : Code → Bool
  | .seq a b => okC ref dep a && okC ref dep b
  | .cond _ a b => okC ref dep a && okC ref dep b
  | .block _ a => okC ref dep a
  | .loop a => okC ref dep a
  | .region id ops draw => !draw || okR ref ops.toList (dep id)
  | .rangeFunc _ _ a b => noRF a && noRF b && okC ref dep a && okC ref dep b
  | _ => true
/- What an abstract state says of Go's own. -/

/-- Where a block of the call's own lies. -/
inductive Loc where
  | free | gone | virt
  | at (b size : Nat)

mutual
/-- A cell's value, of stable memory alone. -/
def P1 (S : Nat → Prop) (w : World) : AV → Value → Prop
  | .any, v => v.oneCell' = true
  | .int k n, v => v = .int k n
  | .bool b, v => v = .bool b
  | .str s, v => v = .string s
  | .fn f, v => v = .func (.func f) #[] #[]
  | .nil, v => v = .slice none 0 0
  | .row n cs, v => ∃ a cap, v = .slice a n cap ∧ n ≤ cap ∧ ((n = 0 ∧ cs = []) ∨ ∃ b o, a = some ⟨b, o, none⟩ ∧ S b ∧ PC S w cs b o)
  | .rptr cs off, v => ∃ b o, v = .pointer (some ⟨b, o + off, none⟩) ∧ S b ∧ PC S w cs b o
  | .cst c, v => v = c ∧ c.oneCell' = true
  | .clo f cs, v => ∃ vs : List Value, v = .func (.func f) #[] vs.toArray ∧ PL S w cs vs
  | .undef, _ | .agg _, _ | .tup _, _ | .own _ _ _ _, _ | .ptr _ _, _ | .map _, _ => False
def PL (S : Nat → Prop) (w : World) : List AV → List Value → Prop
  | [], vs => vs = []
  | c :: r, vs => ∃ v t, vs = v :: t ∧ P1 S w c v ∧ PL S w r t
def PC (S : Nat → Prop) (w : World) : List AV → Nat → Nat → Prop
  | [], _, _ => True
  | c :: r, b, o => (∃ v, w.cell? ⟨b, o, none⟩ = some v ∧ P1 S w c v) ∧ PC S w r b (o + 1)
end

def V1 (ρ : Nat → Loc) (S : Nat → Prop) (w : World) : AV → Value → Prop
  | .own id off n sz, v => match ρ id with
    | .free => False
    | .gone => ∃ a cap, v = .slice a n cap ∧ n ≤ cap ∧ (n = 0 ∨ ∃ b, a = some ⟨b, off, none⟩)
    | .virt => n = 0 ∧ ∃ a, v = .slice a 0 0
    | .at b size => ∃ o cap, v = .slice (some ⟨b, o, none⟩) n cap ∧ n ≤ cap ∧ o + cap * sz ≤ size ∧ (o = off ∨ n = 0 ∧ cap = 0)
  | .ptr id off, v => match ρ id with
    | .free | .virt => False
    | .gone => ∃ b, v = .pointer (some ⟨b, off, none⟩)
    | .at b _ => v = .pointer (some ⟨b, off, none⟩)
  | .map id, v => match ρ id with
    | .free | .virt => False
    | .gone => ∃ b, v = .map (some b)
    | .at b _ => v = .map (some b)
  | c, v => P1 S w c v

/-- Cells beside cells. -/
def CR (R : AV → Value → Prop) (cs : List AV) (vs : Array Value) : Prop := cs.length = vs.size ∧ ∀ (j : Nat) (c : AV), cs[j]? = some c → ∃ v, vs[j]? = some v ∧ R c v

def V2 (ρ : Nat → Loc) (S : Nat → Prop) (w : World) : AV → Value → Prop
  | .any, _ => True
  | .undef, v => v = Go.undef
  | .agg cs, v => ∃ vs, v = .agg vs ∧ CR (V1 ρ S w) cs vs
  | c, v => V1 ρ S w c v
def V3 (ρ : Nat → Loc) (S : Nat → Prop) (w : World) : AV → Value → Prop
  | .tup us, v => ∃ vs, v = .tuple vs ∧ CR (V2 ρ S w) us vs
  | c, v => V2 ρ S w c v

section
variable {S S' : Nat → Prop} {w w' : World} {ρ ρ' : Nat → Loc}

theorem cell_same {b o : Nat} (h : w'.heap[b]? = w.heap[b]?) : w'.cell? ⟨b, o, none⟩ = w.cell? ⟨b, o, none⟩ := by simp [World.cell?, h]

mutual
theorem P1.mono (hS : ∀ b, S b → S' b) (hw : ∀ b, S b → w'.heap[b]? = w.heap[b]?) : ∀ (c : AV) (v : Value), P1 S w c v → P1 S' w' c v
  | .row n cs, v, h => by
    simp only [P1] at h ⊢
    obtain ⟨a, cap, hv, hn, h⟩ := h
    refine ⟨a, cap, hv, hn, ?_⟩
    rcases h with h | ⟨b, o, ha, hb, hc⟩
    · exact .inl h
    · exact .inr ⟨b, o, ha, hS b hb, PC.mono hS hw cs b o hb hc⟩
  | .rptr cs off, v, h => by
    simp only [P1] at h ⊢
    obtain ⟨b, o, hv, hb, hc⟩ := h
    exact ⟨b, o, hv, hS b hb, PC.mono hS hw cs b o hb hc⟩
  | .clo f cs, v, h => by
    simp only [P1] at h ⊢
    obtain ⟨vs, hv, hc⟩ := h
    exact ⟨vs, hv, PL.mono hS hw cs vs hc⟩
  | .cst _, _, h | .any, _, h | .int .., _, h | .bool _, _, h | .str _, _, h | .fn _, _, h | .nil, _, h => by simpa only [P1] using h
  | .undef, _, h | .agg _, _, h | .tup _, _, h | .own .., _, h | .ptr .., _, h | .map _, _, h => by simp only [P1] at h
theorem PL.mono (hS : ∀ b, S b → S' b) (hw : ∀ b, S b → w'.heap[b]? = w.heap[b]?) : ∀ (cs : List AV) (vs : List Value), PL S w cs vs → PL S' w' cs vs
  | [], _, h => by simpa only [PL] using h
  | c :: r, vs, h => by
    simp only [PL] at h ⊢
    obtain ⟨v, t, hv, hc, hr⟩ := h
    exact ⟨v, t, hv, P1.mono hS hw c v hc, PL.mono hS hw r t hr⟩
theorem PC.mono (hS : ∀ b, S b → S' b) (hw : ∀ b, S b → w'.heap[b]? = w.heap[b]?) : ∀ (cs : List AV) (b o : Nat), S b → PC S w cs b o → PC S' w' cs b o
  | [], _, _, _, _ => by simp only [PC]
  | c :: r, b, o, hb, h => by
    simp only [PC] at h ⊢
    obtain ⟨⟨v, hv, hc⟩, hr⟩ := h
    exact ⟨⟨v, by rw [cell_same (hw b hb)]; exact hv, P1.mono hS hw c v hc⟩, PC.mono hS hw r b (o + 1) hb hr⟩
end

theorem P1.one : ∀ {c : AV} {v : Value}, P1 S w c v → v.oneCell' = true := by
  intro c v h
  cases c <;> simp only [P1] at h <;> first
    | exact h
    | (subst h; rfl)
    | (obtain ⟨a, cap, rfl, _⟩ := h; rfl)
    | (obtain ⟨vs, rfl, _⟩ := h; rfl)
    | (obtain ⟨rfl, h⟩ := h; exact h)

theorem PC.get : ∀ {cs : List AV} {b o j : Nat} {c : AV}, PC S w cs b o → cs[j]? = some c → ∃ v, w.cell? ⟨b, o + j, none⟩ = some v ∧ P1 S w c v
  | [], _, _, _, _, _, h => by simp at h
  | c :: r, b, o, 0, _, h, hj => by simp at hj; subst hj; simp only [PC] at h; exact h.1
  | c :: r, b, o, j + 1, c', h, hj => by
    simp only [PC] at h
    have := PC.get (cs := r) (b := b) (o := o + 1) (j := j) h.2 (by simpa using hj)
    rwa [show o + (j + 1) = o + 1 + j by omega]
theorem PC.of : ∀ {cs : List AV} {b o : Nat}, (∀ (j : Nat) (c : AV), cs[j]? = some c → ∃ v, w.cell? ⟨b, o + j, none⟩ = some v ∧ P1 S w c v) → PC S w cs b o
  | [], _, _, _ => by simp only [PC]
  | c :: r, b, o, h => by
    simp only [PC]
    refine ⟨by simpa using h 0 c rfl, PC.of fun j c' hj => ?_⟩
    have := h (j + 1) c' (by simpa using hj)
    rwa [show o + (j + 1) = o + 1 + j by omega] at this

theorem V1.mono (hS : ∀ b, S b → S' b) (hw : ∀ b, S b → w'.heap[b]? = w.heap[b]?) (hρ : ∀ id, ρ id = .free ∨ ρ' id = ρ id ∨ ρ' id = .gone) {c : AV} {v : Value} (h : V1 ρ S w c v) : V1 ρ' S' w' c v := by
  cases c with
  | own id off n sz =>
    simp only [V1] at h ⊢
    rcases hρ id with e | e | e
    · rw [e] at h; exact h.elim
    · rw [e]; exact h
    · rw [e]
      cases hr : ρ id with
      | free => rw [hr] at h; exact h.elim
      | gone => rw [hr] at h; exact h
      | virt => rw [hr] at h; obtain ⟨rfl, a, rfl⟩ := h; exact ⟨a, 0, rfl, Nat.le_refl _, .inl rfl⟩
      | «at» b s =>
        rw [hr] at h; obtain ⟨o, cap, rfl, hn, _, ho⟩ := h
        refine ⟨_, cap, rfl, hn, ?_⟩
        rcases ho with rfl | ⟨rfl, _⟩
        · exact .inr ⟨b, rfl⟩
        · exact .inl rfl
  | ptr id off =>
    simp only [V1] at h ⊢
    rcases hρ id with e | e | e
    · rw [e] at h; exact h.elim
    · rw [e]; exact h
    · rw [e]
      cases hr : ρ id with
      | free => rw [hr] at h; exact h.elim
      | gone => rw [hr] at h; exact h
      | virt => rw [hr] at h; exact h.elim
      | «at» b s => rw [hr] at h; subst h; exact ⟨b, rfl⟩
  | map id =>
    simp only [V1] at h ⊢
    rcases hρ id with e | e | e
    · rw [e] at h; exact h.elim
    · rw [e]; exact h
    · rw [e]
      cases hr : ρ id with
      | free => rw [hr] at h; exact h.elim
      | gone => rw [hr] at h; exact h
      | virt => rw [hr] at h; exact h.elim
      | «at» b s => rw [hr] at h; subst h; exact ⟨b, rfl⟩
  | _ => simp only [V1] at h ⊢; exact P1.mono hS hw _ _ h

theorem V1.one {c : AV} {v : Value} (h : V1 ρ S w c v) : v.oneCell' = true := by
  cases c with
  | own id off n sz =>
    simp only [V1] at h
    cases hr : ρ id with
    | free => rw [hr] at h; exact h.elim
    | gone => rw [hr] at h; obtain ⟨a, cap, rfl, _⟩ := h; rfl
    | virt => rw [hr] at h; obtain ⟨_, a, rfl⟩ := h; rfl
    | «at» b s => rw [hr] at h; obtain ⟨o, cap, rfl, _⟩ := h; rfl
  | ptr id off =>
    simp only [V1] at h
    cases hr : ρ id with
    | free => rw [hr] at h; exact h.elim
    | gone => rw [hr] at h; obtain ⟨b, rfl⟩ := h; rfl
    | virt => rw [hr] at h; exact h.elim
    | «at» b s => rw [hr] at h; subst h; rfl
  | map id =>
    simp only [V1] at h
    cases hr : ρ id with
    | free => rw [hr] at h; exact h.elim
    | gone => rw [hr] at h; obtain ⟨b, rfl⟩ := h; rfl
    | virt => rw [hr] at h; exact h.elim
    | «at» b s => rw [hr] at h; subst h; rfl
  | _ => simp only [V1] at h; exact h.one

theorem CR.mono {R R' : AV → Value → Prop} (hR : ∀ c v, R c v → R' c v) {cs : List AV} {vs : Array Value} (h : CR R cs vs) : CR R' cs vs :=
  ⟨h.1, fun j c hj => let ⟨v, hv, hc⟩ := h.2 j c hj; ⟨v, hv, hR c v hc⟩⟩
theorem V2.mono (hS : ∀ b, S b → S' b) (hw : ∀ b, S b → w'.heap[b]? = w.heap[b]?) (hρ : ∀ id, ρ id = .free ∨ ρ' id = ρ id ∨ ρ' id = .gone) {c : AV} {v : Value} (h : V2 ρ S w c v) : V2 ρ' S' w' c v := by
  cases c with
  | agg cs => simp only [V2] at h ⊢; obtain ⟨vs, hv, hc⟩ := h; exact ⟨vs, hv, hc.mono fun _ _ h => h.mono hS hw hρ⟩
  | any => trivial
  | undef => simpa only [V2] using h
  | _ => simp only [V2] at h ⊢; exact h.mono hS hw hρ
theorem V3.mono (hS : ∀ b, S b → S' b) (hw : ∀ b, S b → w'.heap[b]? = w.heap[b]?) (hρ : ∀ id, ρ id = .free ∨ ρ' id = ρ id ∨ ρ' id = .gone) {c : AV} {v : Value} (h : V3 ρ S w c v) : V3 ρ' S' w' c v := by
  cases c with
  | tup cs => simp only [V3] at h ⊢; obtain ⟨vs, hv, hc⟩ := h; exact ⟨vs, hv, hc.mono fun _ _ h => h.mono hS hw hρ⟩
  | _ => simp only [V3] at h ⊢; exact h.mono hS hw hρ

theorem V1.pure {c : AV} {v : Value} (h : V1 (fun _ => .free) S w c v) : P1 S w c v := by
  cases c <;> first | exact h | (simp only [V1] at h)
theorem P1.v1 {c : AV} {v : Value} (h : P1 S w c v) : V1 ρ S w c v := by
  cases c <;> first | exact h | (simp only [P1] at h)
theorem V1.v2 {c : AV} {v : Value} (h : V1 ρ S w c v) : V2 ρ S w c v := by
  cases c <;> first | exact h | trivial | (simp only [V1, P1] at h)
theorem V2.v3 {c : AV} {v : Value} (h : V2 ρ S w c v) : V3 ρ S w c v := by
  cases c <;> first | exact h | (simp only [V2, V1, P1] at h)
/-- What is known of a slice, of whatever block. -/
theorem V1.own_shape {id off n sz : Nat} {v : Value} (h : V1 ρ S w (.own id off n sz) v) : ∃ a cap, v = .slice a n cap ∧ n ≤ cap ∧ (n = 0 ∨ ∃ b, a = some ⟨b, off, none⟩) := by
  simp only [V1] at h
  cases hr : ρ id with
  | free => rw [hr] at h; exact h.elim
  | gone => rw [hr] at h; exact h
  | virt => rw [hr] at h; obtain ⟨rfl, a, rfl⟩ := h; exact ⟨a, 0, rfl, Nat.le_refl _, .inl rfl⟩
  | «at» b s =>
    rw [hr] at h; obtain ⟨o, cap, rfl, hn, _, ho⟩ := h
    refine ⟨_, cap, rfl, hn, ?_⟩
    rcases ho with rfl | ⟨rfl, _⟩
    · exact .inr ⟨b, rfl⟩
    · exact .inl rfl
theorem V1.ptr_shape {id off : Nat} {v : Value} (h : V1 ρ S w (.ptr id off) v) : ∃ b, v = .pointer (some ⟨b, off, none⟩) := by
  simp only [V1] at h
  cases hr : ρ id with
  | free => rw [hr] at h; exact h.elim
  | gone => rw [hr] at h; exact h
  | virt => rw [hr] at h; exact h.elim
  | «at» b s => rw [hr] at h; exact ⟨b, h⟩
end

/-- Memory of the call's own. -/
def BR (S : Nat → Prop) (w : World) (ρ : Nat → Loc) (l : Loc) : Option Blk → Prop
  | none | some .dead => l = .free
  | some .gone => l = .gone
  | some (.arr cs) => (l = .virt ∧ cs = []) ∨ ∃ b ccs e, l = .at b ccs.size ∧ w.heap[b]? = some (.cells ccs e (0, 0)) ∧ ∀ (j : Nat) (c : AV), cs[j]? = some c → ∃ v, ccs[j]? = some v ∧ P1 S w c v
  | some (.obj cs) => ∃ b ccs e, l = .at b ccs.size ∧ w.heap[b]? = some (.cells ccs e (0, 0)) ∧ ∀ (j : Nat) (c : AV), cs[j]? = some c → ∃ v, ccs[j]? = some v ∧ V1 ρ S w c v
  | some (.map es) => ∃ b es' clock, l = .at b 0 ∧ w.heap[b]? = some (.map es' clock) ∧ es'.size = es.length ∧ ∀ (j : Nat) (p : AV × AV), es[j]? = some p → ∃ e, es'[j]? = some e ∧ V2 (fun _ => .free) S w p.1 e.key ∧ V2 (fun _ => .free) S w p.2 e.val

structure Heap (K : Nat → Prop) (ρ : Nat → Loc) (S : Nat → Prop) (h : List Blk) (z : List Bool) (w : World) : Prop where
  blk : ∀ id, BR S w ρ (ρ id) h[id]?
  inj : ∀ i j b n m, ρ i = .at b n → ρ j = .at b m → i = j
  ok : ∀ id b n, ρ id = .at b n → ¬ K b
  own : ∀ id b n, ρ id = .at b n → z.getD id false = false → ¬ S b
  zl : z.length = h.length
  sb : ∀ b, S b → b < w.heap.size
  kb : ∀ b, K b → b < w.heap.size

/-- What stays, from one world to a later one. -/
structure Ext (K S S' : Nat → Prop) (ρ ρ' : Nat → Loc) (w w' : World) : Prop where
  os : w'.os = w.os
  tape : w'.tape = w.tape
  output : w'.output = w.output
  size : w.heap.size ≤ w'.heap.size
  kept : ∀ b, K b → w'.heap[b]? = w.heap[b]?
  ss : ∀ b, S b → S' b
  new : ∀ b, S' b → S b ∨ ¬ K b
  same : ∀ b, S b → w'.heap[b]? = w.heap[b]?
  loc : ∀ id, ρ id = .free ∨ ρ' id = ρ id ∨ ρ' id = .gone

theorem Ext.refl (K S : Nat → Prop) (ρ : Nat → Loc) (w : World) : Ext K S S ρ ρ w w :=
  ⟨rfl, rfl, rfl, Nat.le_refl _, fun _ _ => rfl, fun _ h => h, fun _ h => .inl h, fun _ _ => rfl, fun _ => .inr (.inl rfl)⟩
theorem Ext.trans {K S S' S'' : Nat → Prop} {ρ ρ' ρ'' : Nat → Loc} {w w' w'' : World} (h : Ext K S S' ρ ρ' w w') (k : Ext K S' S'' ρ' ρ'' w' w'') : Ext K S S'' ρ ρ'' w w'' :=
  ⟨k.os.trans h.os, k.tape.trans h.tape, k.output.trans h.output, Nat.le_trans h.size k.size, fun b hb => (k.kept b hb).trans (h.kept b hb), fun b hb => k.ss b (h.ss b hb),
    fun b hb => (k.new b hb).elim (h.new b) .inr, fun b hb => (k.same b (h.ss b hb)).trans (h.same b hb), fun id => by
      rcases h.loc id with e | e | e
      · exact .inl e
      · rcases k.loc id with f | f | f
        · exact .inl (e ▸ f)
        · exact .inr (.inl (f.trans e))
        · exact .inr (.inr f)
      · rcases k.loc id with f | f | f
        · rw [e] at f; cases f
        · exact .inr (.inr (f.trans e))
        · exact .inr (.inr f)⟩

/-- What is deferred: marks of ranges over functions alone. -/
def mkD (D : Nat) : Deferred := { target := .collected D, args := #[] }
def Dfr (K S : Nat → Prop) (w : World) (ds : List Deferred) : Prop := ∃ Ds : List Nat, ds = Ds.map mkD ∧ Ds.Nodup ∧ ∀ D ∈ Ds, K D ∧ ¬ S D ∧ w.heap[D]? = some (.deferred (some []))
theorem Dfr.nil (K S : Nat → Prop) (w : World) : Dfr K S w [] := ⟨[], rfl, .nil, fun _ h => by cases h⟩
theorem Dfr.step {K S S' : Nat → Prop} {w w' : World} {ds : List Deferred} (h : Dfr K S w ds) (hk : ∀ b, K b → w'.heap[b]? = w.heap[b]?) (hn : ∀ b, S' b → S b ∨ ¬ K b) : Dfr K S' w' ds :=
  let ⟨Ds, h1, h2, h3⟩ := h
  ⟨Ds, h1, h2, fun D hD => let ⟨a, b, c⟩ := h3 D hD; ⟨a, fun q => (hn D q).elim b (fun r => r a), (hk D a).trans c⟩⟩
theorem Dfr.more {K K' S : Nat → Prop} {w : World} {ds : List Deferred} (h : Dfr K S w ds) (hk : ∀ b, K b → K' b) : Dfr K' S w ds :=
  let ⟨Ds, h1, h2, h3⟩ := h
  ⟨Ds, h1, h2, fun D hD => let ⟨a, b, c⟩ := h3 D hD; ⟨hk D a, b, c⟩⟩
structure Rel (K : Nat → Prop) (ρ : Nat → Loc) (S : Nat → Prop) (s : AS) (a : Act) (w : World) : Prop where
  len : s.tmps.length = a.tmps.size
  tmp : ∀ (t : Nat) (v : AV), s.tmps[t]? = some v → ∃ u, a.tmps[t]? = some u ∧ V3 ρ S w v u
  mem : Heap K ρ S s.heap s.frz w
  dfr : Dfr K S w a.defers
/- Steps of memory: freezing, new blocks, writes. -/
section
variable {K S : Nat → Prop} {w w' : World} {ρ : Nat → Loc} {h : List Blk} {z : List Bool}

theorem Heap.lt (H : Heap K ρ S h z w) {id b n : Nat} (e : ρ id = .at b n) : b < w.heap.size ∧ id < h.length := by
  have := H.blk id
  cases hb : h[id]? with
  | none => rw [hb] at this; simp only [BR] at this; rw [this] at e; cases e
  | some x =>
    refine ⟨?_, (List.getElem?_eq_some_iff.1 hb).1⟩
    rw [hb] at this
    cases x <;> simp only [BR] at this
    · rw [this] at e; cases e
    · rw [this] at e; cases e
    · rcases this with ⟨f, _⟩ | ⟨b', ccs, ty, f, g, _⟩
      · rw [f] at e; cases e
      · rw [f] at e; cases e; exact (Array.getElem?_eq_some_iff.1 g).1
    · obtain ⟨b', ccs, ty, f, g, _⟩ := this
      rw [f] at e; cases e; exact (Array.getElem?_eq_some_iff.1 g).1
    · obtain ⟨b', ccs, ty, f, g, _⟩ := this
      rw [f] at e; cases e; exact (Array.getElem?_eq_some_iff.1 g).1

theorem frzAll_length : ∀ (f : List Nat) (z : List Bool), (frzAll z f).length = z.length
  | [], _ => rfl
  | i :: r, z => by rw [frzAll, frzAll_length r, List.length_set]
theorem frzAll_true : ∀ (f : List Nat) (z : List Bool) (i : Nat), z.getD i false = true → (frzAll z f).getD i false = true
  | [], _, _, h => h
  | j :: r, z, i, h => by
    rw [frzAll]
    refine frzAll_true r _ i ?_
    simp only [List.getD_eq_getElem?_getD, List.getElem?_set] at h ⊢
    split
    · rename_i e; subst e
      split
      · rfl
      · rename_i hl; rw [List.getElem?_eq_none (by omega)] at h; simp at h
    · exact h
theorem frzAll_mem : ∀ (f : List Nat) (z : List Bool) (i : Nat), i ∈ f → i < z.length → (frzAll z f).getD i false = true
  | [], _, _, h, _ => by simp at h
  | j :: r, z, i, h, hl => by
    rw [frzAll]
    rcases List.mem_cons.1 h with e | e
    · subst e
      refine frzAll_true r _ i ?_
      simp [List.getD_eq_getElem?_getD, hl]
    · exact frzAll_mem r _ i e (by simpa using hl)

theorem frzAll_not : ∀ (f : List Nat) (z : List Bool) (i : Nat), i ∉ f → (frzAll z f).getD i false = z.getD i false
  | [], _, _, _ => rfl
  | j :: r, z, i, h => by
    rw [frzAll, frzAll_not r _ i (fun q => h (by simp [q]))]
    simp only [List.getD_eq_getElem?_getD]
    rw [List.getElem?_set_ne (fun q => h (by simp [q]))]

/-- Stable memory, and some blocks. -/
def Sf (S : Nat → Prop) (ρ : Nat → Loc) (f : List Nat) (b : Nat) : Prop := S b ∨ ∃ i ∈ f, ∃ n, ρ i = .at b n

theorem BR.mono {S' : Nat → Prop} {ρ' : Nat → Loc} (hS : ∀ b, S b → S' b) (hw : ∀ b, S b → w'.heap[b]? = w.heap[b]?) (hρ : ∀ id, ρ id = .free ∨ ρ' id = ρ id ∨ ρ' id = .gone) {l : Loc}
    (hl : ∀ b n, l = .at b n → w'.heap[b]? = w.heap[b]?) {x : Option Blk} (H : BR S w ρ l x) : BR S' w' ρ' l x := by
  rcases x with _ | (_ | _ | cs | cs | es)
  · exact H
  · exact H
  · exact H
  · simp only [BR] at H ⊢
    rcases H with H | ⟨b, ccs, e, f, g, k⟩
    · exact .inl H
    · exact .inr ⟨b, ccs, e, f, (hl _ _ f).trans g, fun j c hj => let ⟨v, hv, hc⟩ := k j c hj; ⟨v, hv, P1.mono hS hw c v hc⟩⟩
  · simp only [BR] at H ⊢
    obtain ⟨b, ccs, e, f, g, k⟩ := H
    exact ⟨b, ccs, e, f, (hl _ _ f).trans g, fun j c hj => let ⟨v, hv, hc⟩ := k j c hj; ⟨v, hv, hc.mono hS hw hρ⟩⟩
  · simp only [BR] at H ⊢
    obtain ⟨b, es', cl, f, g, hn, k⟩ := H
    exact ⟨b, es', cl, f, (hl _ _ f).trans g, hn, fun j p hj => let ⟨e, he, h1, h2⟩ := k j p hj; ⟨e, he, h1.mono hS hw (fun _ => .inl rfl), h2.mono hS hw (fun _ => .inl rfl)⟩⟩

theorem Heap.freeze (H : Heap K ρ S h z w) (f : List Nat) : Heap K ρ (Sf S ρ f) h (frzAll z f) w ∧ Ext K S (Sf S ρ f) ρ ρ w w := by
  refine ⟨⟨fun id => (H.blk id).mono (fun _ h => .inl h) (fun _ _ => rfl) (fun _ => .inr (.inl rfl)) (fun _ _ _ => rfl), H.inj, H.ok, ?_, ?_, ?_, H.kb⟩,
    ⟨rfl, rfl, rfl, Nat.le_refl _, fun _ _ => rfl, fun _ h => .inl h, ?_, fun _ _ => rfl, fun _ => .inr (.inl rfl)⟩⟩
  · intro id b n e hz hs
    rcases hs with hs | ⟨i, hi, m, hm⟩
    · refine H.own id b n e ?_ hs
      cases hq : z.getD id false with
      | false => rfl
      | true => rw [frzAll_true f z id hq] at hz; cases hz
    · have := H.inj _ _ _ _ _ e hm
      subst this
      rw [frzAll_mem f z id hi (by rw [H.zl]; exact (H.lt e).2)] at hz
      cases hz
  · rw [frzAll_length]; exact H.zl
  · rintro b (hb | ⟨i, _, n, hn⟩)
    · exact H.sb b hb
    · exact (H.lt hn).1
  · rintro b (hb | ⟨i, _, n, hn⟩)
    · exact .inl hb
    · exact .inr (H.ok _ _ _ hn)

def upd (ρ : Nat → Loc) (i : Nat) (l : Loc) (j : Nat) : Loc := if j = i then l else ρ j
@[simp] theorem upd_same (ρ : Nat → Loc) (i : Nat) (l : Loc) : upd ρ i l i = l := by simp [upd]
theorem upd_ne (ρ : Nat → Loc) {i j : Nat} (l : Loc) (h : j ≠ i) : upd ρ i l j = ρ j := by simp [upd, h]

/-- A new block, in a slot that was free. -/
theorem Heap.newN (H : Heap K ρ S h z w) {slot b n0 : Nat} {x : Blk} (hs : h[slot]? = some .dead) (hb : w.heap.size ≤ b) (hsz : w.heap.size ≤ w'.heap.size)
    (hold : ∀ k, k < w.heap.size → w'.heap[k]? = w.heap[k]?)
    (hos : w'.os = w.os) (htape : w'.tape = w.tape) (hout : w'.output = w.output)
    (hx : BR S w' (upd ρ slot (.at b n0)) (.at b n0) (some x)) :
    Heap K (upd ρ slot (.at b n0)) S (h.set slot x) z w' ∧ Ext K S S ρ (upd ρ slot (.at b n0)) w w' := by
  have hfree : ρ slot = .free := by have := H.blk slot; rw [hs] at this; exact this
  have hloc : ∀ id, ρ id = .free ∨ upd ρ slot (.at b n0) id = ρ id ∨ upd ρ slot (.at b n0) id = .gone := by
    intro id
    by_cases h : id = slot
    · subst h; exact .inl hfree
    · exact .inr (.inl (upd_ne _ _ h))
  have hlt := (List.getElem?_eq_some_iff.1 hs).1
  refine ⟨⟨?_, ?_, ?_, ?_, by simpa using H.zl, fun k hk => Nat.lt_of_lt_of_le (H.sb k hk) hsz, fun k hk => Nat.lt_of_lt_of_le (H.kb k hk) hsz⟩,
    ⟨hos, htape, hout, hsz, fun k hk => hold k (H.kb k hk), fun _ h => h, fun _ h => .inl h, fun k hk => hold k (H.sb k hk), hloc⟩⟩
  · intro id
    by_cases hi : id = slot
    · subst hi; rw [upd_same, List.getElem?_set_self hlt]; exact hx
    · rw [upd_ne _ _ hi, List.getElem?_set_ne (Ne.symm hi)]
      exact (H.blk id).mono (fun _ h => h) (fun k hk => hold k (H.sb k hk)) hloc (fun k n hk => hold k (H.lt hk).1)
  · intro i j k n m hi hj
    by_cases e1 : i = slot <;> by_cases e2 : j = slot
    · rw [e1, e2]
    · subst e1; rw [upd_same] at hi; rw [upd_ne _ _ e2] at hj; cases hi; have := (H.lt hj).1; omega
    · subst e2; rw [upd_same] at hj; rw [upd_ne _ _ e1] at hi; cases hj; have := (H.lt hi).1; omega
    · rw [upd_ne _ _ e1] at hi; rw [upd_ne _ _ e2] at hj; exact H.inj _ _ _ _ _ hi hj
  · intro id k n hk
    by_cases e1 : id = slot
    · subst e1; rw [upd_same] at hk; cases hk; intro hK; have := H.kb _ hK; omega
    · rw [upd_ne _ _ e1] at hk; exact H.ok _ _ _ hk
  · intro id k n hk hz
    by_cases e1 : id = slot
    · subst e1; rw [upd_same] at hk; cases hk; intro hK; have := H.sb _ hK; omega
    · rw [upd_ne _ _ e1] at hk; exact H.own _ _ _ hk hz

theorem Heap.new (H : Heap K ρ S h z w) {slot b : Nat} {ccs : Array Value} {e : TypeId} {x : Blk} (hs : h[slot]? = some .dead) (hb : w.heap.size ≤ b) (hsz : w.heap.size ≤ w'.heap.size)
    (hold : ∀ k, k < w.heap.size → w'.heap[k]? = w.heap[k]?) (hnew : w'.heap[b]? = some (.cells ccs e (0, 0)))
    (hos : w'.os = w.os) (htape : w'.tape = w.tape) (hout : w'.output = w.output)
    (hx : BR S w' (upd ρ slot (.at b ccs.size)) (.at b ccs.size) (some x)) :
    Heap K (upd ρ slot (.at b ccs.size)) S (h.set slot x) z w' ∧ Ext K S S ρ (upd ρ slot (.at b ccs.size)) w w' := H.newN hs hb hsz hold hos htape hout hx
/-- A virtual block, in a slot that was free. -/
theorem Heap.newVirt (H : Heap K ρ S h z w) {slot : Nat} (hs : h[slot]? = some .dead) :
    Heap K (upd ρ slot .virt) S (h.set slot (.arr [])) z w ∧ Ext K S S ρ (upd ρ slot .virt) w w := by
  have hfree : ρ slot = .free := by have := H.blk slot; rw [hs] at this; exact this
  have hloc : ∀ id, ρ id = .free ∨ upd ρ slot .virt id = ρ id ∨ upd ρ slot .virt id = .gone := by
    intro id
    by_cases h : id = slot
    · subst h; exact .inl hfree
    · exact .inr (.inl (upd_ne _ _ h))
  have hlt := (List.getElem?_eq_some_iff.1 hs).1
  have hat : ∀ id b n, upd ρ slot .virt id = .at b n → id ≠ slot ∧ ρ id = .at b n := by
    intro id b n hb
    by_cases e : id = slot
    · subst e; rw [upd_same] at hb; cases hb
    · exact ⟨e, by rwa [upd_ne _ _ e] at hb⟩
  refine ⟨⟨?_, fun i j k n m hi hj => H.inj _ _ _ _ _ (hat _ _ _ hi).2 (hat _ _ _ hj).2, fun id k n hk => H.ok _ _ _ (hat _ _ _ hk).2, fun id k n hk hz => H.own _ _ _ (hat _ _ _ hk).2 hz, by simpa using H.zl, H.sb, H.kb⟩,
    ⟨rfl, rfl, rfl, Nat.le_refl _, fun _ _ => rfl, fun _ h => h, fun _ h => .inl h, fun _ _ => rfl, hloc⟩⟩
  intro id
  by_cases hi : id = slot
  · subst hi; rw [upd_same, List.getElem?_set_self hlt]; exact .inl ⟨rfl, rfl⟩
  · rw [upd_ne _ _ hi, List.getElem?_set_ne (Ne.symm hi)]
    exact (H.blk id).mono (fun _ h => h) (fun _ _ => rfl) hloc (fun _ _ _ => rfl)

/-- A block is written. -/
theorem Heap.writeN (H : Heap K ρ S h z w) {id b n : Nat} {x : Blk} (hi : ρ id = .at b n) (hz : z.getD id false = false)
    (hsz : w'.heap.size = w.heap.size) (hold : ∀ k, k ≠ b → w'.heap[k]? = w.heap[k]?)
    (hos : w'.os = w.os) (htape : w'.tape = w.tape) (hout : w'.output = w.output) (hx : BR S w' ρ (.at b n) (some x)) :
    Heap K ρ S (h.set id x) z w' ∧ Ext K S S ρ ρ w w' := by
  have hSb : ∀ k, S k → w'.heap[k]? = w.heap[k]? := fun k hk => hold k fun e => by subst e; exact H.own _ _ _ hi hz hk
  have hlt := (H.lt hi).2
  refine ⟨⟨?_, H.inj, H.ok, H.own, by simpa using H.zl, fun k hk => hsz ▸ H.sb k hk, fun k hk => hsz ▸ H.kb k hk⟩,
    ⟨hos, htape, hout, by omega, fun k hk => hold k fun e => by subst e; exact H.ok _ _ _ hi hk, fun _ h => h, fun _ h => .inl h, hSb, fun _ => .inr (.inl rfl)⟩⟩
  intro j
  by_cases hj : j = id
  · subst hj; rw [List.getElem?_set_self hlt, hi]; exact hx
  · rw [List.getElem?_set_ne (Ne.symm hj)]
    exact (H.blk j).mono (fun _ h => h) hSb (fun _ => .inr (.inl rfl)) (fun k m hk => hold k fun e => by subst e; exact hj (H.inj _ _ _ _ _ hk hi))

theorem Heap.write (H : Heap K ρ S h z w) {id b n : Nat} {ccs : Array Value} {e : TypeId} {x : Blk} (hi : ρ id = .at b n) (hz : z.getD id false = false)
    (hn : ccs.size = n) (hsz : w'.heap.size = w.heap.size) (hold : ∀ k, k ≠ b → w'.heap[k]? = w.heap[k]?) (hnew : w'.heap[b]? = some (.cells ccs e (0, 0)))
    (hos : w'.os = w.os) (htape : w'.tape = w.tape) (hout : w'.output = w.output) (hx : BR S w' ρ (.at b n) (some x)) :
    Heap K ρ S (h.set id x) z w' ∧ Ext K S S ρ ρ w w' := H.writeN hi hz hsz hold hos htape hout hx
/-- A block goes. -/
theorem Heap.go (H : Heap K ρ S h z w) {id : Nat} (hl : id < h.length) (hi : ρ id ≠ .free) : Heap K (upd ρ id .gone) S (h.set id .gone) z w ∧ Ext K S S ρ (upd ρ id .gone) w w := by
  have hloc : ∀ j, ρ j = .free ∨ upd ρ id .gone j = ρ j ∨ upd ρ id .gone j = .gone := by
    intro j
    by_cases h : j = id
    · subst h; exact .inr (.inr (upd_same _ _ _))
    · exact .inr (.inl (upd_ne _ _ h))
  have hat : ∀ j b n, upd ρ id .gone j = .at b n → j ≠ id ∧ ρ j = .at b n := by
    intro j b n hb
    by_cases e : j = id
    · subst e; rw [upd_same] at hb; cases hb
    · exact ⟨e, by rwa [upd_ne _ _ e] at hb⟩
  refine ⟨⟨?_, fun i j k n m hi hj => H.inj _ _ _ _ _ (hat _ _ _ hi).2 (hat _ _ _ hj).2, fun id k n hk => H.ok _ _ _ (hat _ _ _ hk).2, fun id k n hk hz => H.own _ _ _ (hat _ _ _ hk).2 hz, by simpa using H.zl, H.sb, H.kb⟩,
    ⟨rfl, rfl, rfl, Nat.le_refl _, fun _ _ => rfl, fun _ h => h, fun _ h => .inl h, fun _ _ => rfl, hloc⟩⟩
  intro j
  by_cases hj : j = id
  · subst hj; rw [upd_same, List.getElem?_set_self hl]; rfl
  · rw [upd_ne _ _ hj, List.getElem?_set_ne (Ne.symm hj)]
    exact (H.blk j).mono (fun _ h => h) (fun _ _ => rfl) hloc (fun _ _ _ => rfl)

/-- A block goes, and lies in another slot from then on. -/
theorem Heap.move (H : Heap K ρ S h z w) {id slot b n : Nat} {ccs : Array Value} {e : TypeId} {cs : List AV} (hi : ρ id = .at b n) (hz : z.getD id false = false) (hs : h[slot]? = some .dead)
    (hn : ccs.size = n) (hsz : w'.heap.size = w.heap.size) (hold : ∀ k, k ≠ b → w'.heap[k]? = w.heap[k]?) (hnew : w'.heap[b]? = some (.cells ccs e (0, 0)))
    (hos : w'.os = w.os) (htape : w'.tape = w.tape) (hout : w'.output = w.output) (hx : ∀ (j : Nat) (c : AV), cs[j]? = some c → ∃ v, ccs[j]? = some v ∧ P1 S w' c v) :
    Heap K (upd (upd ρ id .gone) slot (.at b n)) S ((h.set id .gone).set slot (.arr cs)) z w' ∧ Ext K S S ρ (upd (upd ρ id .gone) slot (.at b n)) w w' := by
  have hfree : ρ slot = .free := by have := H.blk slot; rw [hs] at this; exact this
  have hne : id ≠ slot := fun e => by subst e; rw [hi] at hfree; cases hfree
  have hSb : ∀ k, S k → w'.heap[k]? = w.heap[k]? := fun k hk => hold k fun e => by subst e; exact H.own _ _ _ hi hz hk
  have hlt := (H.lt hi).2
  have hls := (List.getElem?_eq_some_iff.1 hs).1
  have hloc : ∀ j, ρ j = .free ∨ upd (upd ρ id .gone) slot (.at b n) j = ρ j ∨ upd (upd ρ id .gone) slot (.at b n) j = .gone := by
    intro j
    by_cases h : j = slot
    · subst h; exact .inl hfree
    · by_cases h' : j = id
      · subst h'; exact .inr (.inr (by rw [upd_ne _ _ h, upd_same]))
      · exact .inr (.inl (by rw [upd_ne _ _ h, upd_ne _ _ h']))
  have hat : ∀ j k m, upd (upd ρ id .gone) slot (.at b n) j = .at k m → (j = slot ∧ k = b ∧ m = n) ∨ (j ≠ slot ∧ j ≠ id ∧ ρ j = .at k m) := by
    intro j k m hk
    by_cases h : j = slot
    · subst h; rw [upd_same] at hk; cases hk; exact .inl ⟨rfl, rfl, rfl⟩
    · rw [upd_ne _ _ h] at hk
      by_cases h' : j = id
      · subst h'; rw [upd_same] at hk; cases hk
      · rw [upd_ne _ _ h'] at hk; exact .inr ⟨h, h', hk⟩
  have hzs : ∀ k, ¬ S k ∨ k ≠ b := fun k => by
    by_cases e : k = b
    · subst e; exact .inl (H.own _ _ _ hi hz)
    · exact .inr e
  refine ⟨⟨?_, ?_, ?_, ?_, by simpa using H.zl, fun k hk => hsz ▸ H.sb k hk, fun k hk => hsz ▸ H.kb k hk⟩,
    ⟨hos, htape, hout, by omega, fun k hk => hold k fun e => by subst e; exact H.ok _ _ _ hi hk, fun _ h => h, fun _ h => .inl h, hSb, hloc⟩⟩
  · intro j
    by_cases hj : j = slot
    · subst hj
      rw [upd_same, List.getElem?_set_self (by simpa using hls)]
      exact .inr ⟨b, ccs, e, by rw [hn], hnew, hx⟩
    · rw [upd_ne _ _ hj, List.getElem?_set_ne (Ne.symm hj)]
      by_cases hj' : j = id
      · subst hj'; rw [upd_same, List.getElem?_set_self hlt]; rfl
      · rw [upd_ne _ _ hj', List.getElem?_set_ne (Ne.symm hj')]
        exact (H.blk j).mono (fun _ h => h) hSb hloc (fun k m hk => hold k fun e => by subst e; exact hj' (H.inj _ _ _ _ _ hk hi))
  · intro i j k m m' h1 h2
    rcases hat _ _ _ h1 with ⟨a1, a2, _⟩ | ⟨a1, a2, a3⟩ <;> rcases hat _ _ _ h2 with ⟨b1, b2, _⟩ | ⟨b1, b2, b3⟩
    · rw [a1, b1]
    · subst a2; exact (b2 (H.inj _ _ _ _ _ b3 hi)).elim
    · subst b2; exact (a2 (H.inj _ _ _ _ _ a3 hi)).elim
    · exact H.inj _ _ _ _ _ a3 b3
  · intro j k m hk
    rcases hat _ _ _ hk with ⟨_, a2, _⟩ | ⟨_, _, a3⟩
    · subst a2; exact H.ok _ _ _ hi
    · exact H.ok _ _ _ a3
  · intro j k m hk hq
    rcases hat _ _ _ hk with ⟨_, a2, _⟩ | ⟨_, _, a3⟩
    · subst a2; exact H.own _ _ _ hi hz
    · exact H.own _ _ _ a3 hq

/-- More slots. -/
theorem Heap.widen (H : Heap K ρ S h z w) (k : Nat) : Heap K ρ S (h ++ List.replicate k .dead) (z ++ List.replicate k false) w := by
  refine ⟨fun id => ?_, H.inj, H.ok, fun id b n e hq => H.own id b n e ?_, by simp [H.zl], H.sb, H.kb⟩
  · have := H.blk id
    rw [List.getElem?_append]
    split
    · exact this
    · rename_i hl
      rw [List.getElem?_eq_none (by omega)] at this
      rw [List.getElem?_replicate]
      split <;> exact this
  · have hl := (H.lt e).2
    rw [← H.zl] at hl
    simpa [List.getD_eq_getElem?_getD, List.getElem?_append, hl] using hq
end
/- Operations: that what the abstract run does is what Go does. The ground. -/

section
variable {K S : Nat → Prop} {w : World} {ρ : Nat → Loc}

theorem ofCell_sound {v : Value} (h : v.oneCell' = true) : P1 S w (ofCell v) v := by
  unfold ofCell
  split
  · simp only [P1]
  · simp only [P1]
  · simp only [P1]
  · split
    · rename_i n m e; obtain ⟨rfl, rfl⟩ := e; simp only [P1]
    · exact h
  · exact h
theorem CR_ofCell {cs : Array Value} (h : cs.all Value.oneCell' = true) : CR (P1 S w) (cs.toList.map ofCell) cs := by
  refine ⟨by simp, fun j c hj => ?_⟩
  rw [List.getElem?_map] at hj
  cases hc : cs.toList[j]? with
  | none => rw [hc] at hj; cases hj
  | some v =>
    rw [hc] at hj; simp at hj; subst hj
    refine ⟨v, by simpa using hc, ofCell_sound ?_⟩
    exact Array.all_eq_true_iff_forall_mem.1 h v (Array.mem_toList_iff.1 (List.mem_of_getElem? hc))
theorem ofVal_sound (v : Value) : V2 ρ S w (ofVal v) v := by
  by_cases h : v.oneCell' = true
  · have : ofVal v = ofCell v := by cases v <;> first | rfl | (simp [Value.oneCell'] at h)
    rw [this]; exact (ofCell_sound h).v1.v2
  · cases v <;> first | (exact (h rfl).elim) | skip
    · rename_i cs
      simp only [ofVal]
      split
      · rename_i h; simp only [V2]; exact ⟨cs, rfl, (CR_ofCell h).mono fun _ _ h => h.v1⟩
      · trivial
    · simp only [ofVal, ofCell]; trivial

theorem Rel.look {s : AS} {a : Act} (R : Rel K ρ S s a w) (x : Operand) : V3 ρ S w (lookA s.tmps x) (a.eval x) := by
  cases x with
  | tmp t =>
    simp only [lookA, Act.eval, List.getD_eq_getElem?_getD]
    cases h : s.tmps[t]? with
    | none =>
      have : a.tmps[t]? = none := by
        have := R.len; rw [List.getElem?_eq_none_iff] at h; exact Array.getElem?_eq_none (by omega)
      simp [V3, V2, Array.getD_eq_getD_getElem?, this]
    | some v =>
      obtain ⟨u, hu, hv⟩ := R.tmp t v h
      simpa [Array.getD_eq_getD_getElem?, hu] using hv
  | const v => exact (ofVal_sound v).v3
  | func f => simp only [lookA, Act.eval, V3, V2, V1, P1]
  | global g => trivial

theorem int_of {k n v} (h : V3 ρ S w (.int k n) v) : v = .int k n := by simpa only [V3, V2, V1, P1] using h
theorem bool_of {b v} (h : V3 ρ S w (.bool b) v) : v = .bool b := by simpa only [V3, V2, V1, P1] using h
theorem str_of {s v} (h : V3 ρ S w (.str s) v) : v = .string s := by simpa only [V3, V2, V1, P1] using h
theorem fn_of {f v} (h : V3 ρ S w (.fn f) v) : v = .func (.func f) #[] #[] := by simpa only [V3, V2, V1, P1] using h
theorem nil_of {v} (h : V3 ρ S w .nil v) : v = .slice none 0 0 := by simpa only [V3, V2, V1, P1] using h
theorem agg_of {cs v} (h : V3 ρ S w (.agg cs) v) : ∃ vs, v = .agg vs ∧ CR (V1 ρ S w) cs vs := by simpa only [V3, V2] using h
theorem row_of {n cs v} (h : V3 ρ S w (.row n cs) v) : ∃ a cap, v = .slice a n cap ∧ n ≤ cap ∧ ((n = 0 ∧ cs = []) ∨ ∃ b o, a = some ⟨b, o, none⟩ ∧ S b ∧ PC S w cs b o) := by simpa only [V3, V2, V1, P1] using h
theorem rptr_of {cs off v} (h : V3 ρ S w (.rptr cs off) v) : ∃ b o, v = .pointer (some ⟨b, o + off, none⟩) ∧ S b ∧ PC S w cs b o := by simpa only [V3, V2, V1, P1] using h
theorem v1_of {c v} (h : V3 ρ S w c v) (hc : ∀ cs, c ≠ .agg cs) (ht : ∀ cs, c ≠ .tup cs) (ha : c ≠ .any) (hu : c ≠ .undef) : V1 ρ S w c v := by
  cases c <;> first | exact h | exact (hc _ rfl).elim | exact (ht _ rfl).elim | exact (ha rfl).elim | exact (hu rfl).elim

/-- The cells of a value. -/
theorem cells_of {c : AV} {v : Value} {cs : List AV} (h : V3 ρ S w c v) (hc : c.cells = some cs) : CR (V1 ρ S w) cs v.cells := by
  have one : V1 ρ S w c v → CR (V1 ρ S w) [c] v.cells := fun h1 => by
    have : v.cells = #[v] := by have := h1.one; cases v <;> first | rfl | (simp [Value.oneCell'] at this)
    rw [this]
    refine ⟨rfl, fun j d hj => ?_⟩
    cases j with
    | zero => simp at hj; subst hj; exact ⟨v, rfl, h1⟩
    | succ j => simp at hj
  cases c <;> simp only [AV.cells, Option.some.injEq, reduceCtorEq] at hc <;> first
    | (subst hc; exact one h)
    | skip
  subst hc
  obtain ⟨vs, rfl, hv⟩ := agg_of h
  exact hv
theorem CR.one {cs : List AV} {vs : Array Value} (h : CR (V1 ρ S w) cs vs) : ∀ v ∈ vs.toList, v.oneCell' = true := by
  intro v hv
  obtain ⟨j, hj⟩ := List.getElem?_of_mem hv
  have hl : j < cs.length := by rw [h.1]; have := (List.getElem?_eq_some_iff.1 hj).1; simpa using this
  obtain ⟨u, hu, h1⟩ := h.2 j _ (List.getElem?_eq_getElem hl)
  have : v = u := by have h2 : vs[j]? = some v := by simpa using hj
                     rw [h2] at hu; simpa using hu
  rw [this]; exact h1.one

/-! Types. -/
variable {P : Program} {t : TypeId}
theorem okT_spec (h : okT P t = true) : ∃ i z, P.info? t = some i ∧ i.zero = some z ∧ z.cells.size = i.size ∧ i.size ≠ 0 ∧ z.cells.all Value.oneCell' = true ∧ sizeT P t = i.size ∧ zeroT P t = z.cells.toList.map ofCell := by
  unfold okT at h
  simp only [Bool.and_eq_true] at h
  replace h := h.2
  cases hi : P.info? t with
  | none => simp [hi] at h
  | some i =>
    simp only [hi] at h
    cases hz : i.zero with
    | none => simp [hz] at h
    | some z =>
      simp only [hz, Bool.and_eq_true, beq_iff_eq, bne_iff_ne] at h
      exact ⟨i, z, rfl, hz, h.1.1, h.1.2, h.2, by simp [sizeT, hi], by simp [zeroT, hi, hz]⟩
theorem okT_under (h : okT P t = true) : ∃ d, P.underlying t = some d := by
  unfold okT at h
  simp only [Bool.and_eq_true] at h
  exact Option.isSome_iff_exists.1 h.1
theorem kindT_spec {n a} (h : kindT P t = some (n, a)) : okT P t = true ∧ n = sizeT P t ∧ a = aggT P t := by
  unfold kindT at h
  split at h
  · simp at h; exact ⟨by assumption, h.1.symm, h.2.symm⟩
  · cases h
theorem td_int {k} (h : tdesc P t = .int k) : P.underlying t = some (.int k) := by
  unfold tdesc at h; split at h <;> (try split at h) <;> simp at h; subst h; assumption
theorem td_bool (h : tdesc P t = .bool) : P.underlying t = some .bool := by
  unfold tdesc at h; split at h <;> (try split at h) <;> simp at h; assumption
theorem td_str (h : tdesc P t = .str) : P.underlying t = some .string := by
  unfold tdesc at h; split at h <;> (try split at h) <;> simp at h; assumption
theorem td_slice {e sz bytes z} (h : tdesc P t = .slice e sz bytes z) : P.underlying t = some (.slice e) ∧ ∃ i z0, P.info? e = some i ∧ i.zero = some z0 ∧ z0.cells.size = sz ∧ i.size = sz ∧ sz ≠ 0 ∧ i.bytes = bytes ∧ z0.cells.all Value.oneCell' = true ∧ z = z0.cells.toList.map ofCell := by
  unfold tdesc at h; split at h <;> (try split at h) <;> simp at h
  rename_i e' hu hok
  obtain ⟨rfl, rfl, rfl, rfl⟩ := h
  obtain ⟨i, z0, h1, h2, h3, h4, h5, h6, h7⟩ := okT_spec hok
  exact ⟨hu, i, z0, h1, h2, by rw [h6, h3], h6.symm, by rw [h6]; exact h4, by simp [h1], h5, h7⟩
theorem td_map {k e zz} (h : tdesc P t = .map k e zz) : P.underlying t = some (.map k e) ∧ ∃ i z0, P.info? e = some i ∧ i.zero = some z0 ∧ zz = ofVal z0 := by
  unfold tdesc at h; split at h <;> (try split at h) <;> simp at h
  rename_i k' e' hu hok
  obtain ⟨rfl, rfl, rfl⟩ := h
  obtain ⟨i, z0, h1, h2, h3, h4, h5, h6, h7⟩ := okT_spec hok
  exact ⟨hu, i, z0, h1, h2, by simp [h1, h2]⟩
theorem td_struct {size z fs} (h : tdesc P t = .struct size z fs) : ∃ l i z0, P.underlying t = some (.struct l) ∧ P.info? t = some i ∧ i.zero = some z0 ∧ z0.cells.size = size ∧ i.size = size ∧ size ≠ 0 ∧ z0.cells.all Value.oneCell' = true ∧ z = z0.cells.toList.map ofCell ∧ fs = l.toList.map (fun f => (f.offset, sizeT P f.type, aggT P f.type)) ∧ l.all (fun f => okT P f.type) = true := by
  unfold tdesc at h; split at h <;> (try split at h) <;> simp at h
  rename_i l hu hok
  obtain ⟨rfl, rfl, rfl⟩ := h
  simp only [Bool.and_eq_true] at hok
  obtain ⟨i, z0, h1, h2, h3, h4, h5, h6, h7⟩ := okT_spec hok.1
  exact ⟨l, i, z0, hu, h1, h2, by rw [h6, h3], h6.symm, by rw [h6]; exact h4, h5, h7, rfl, hok.2⟩
theorem td_array {n sz size z ag} (h : tdesc P t = .array n sz size z ag) : ∃ e i z0 ie ze, P.underlying t = some (.array n e) ∧ P.info? t = some i ∧ i.zero = some z0 ∧ z0.cells.size = size ∧ i.size = size ∧ size ≠ 0 ∧ z0.cells.all Value.oneCell' = true ∧ z = z0.cells.toList.map ofCell ∧
    P.info? e = some ie ∧ ie.zero = some ze ∧ ie.size = sz ∧ sz ≠ 0 ∧ ag = aggT P e ∧ sz = sizeT P e := by
  unfold tdesc at h; split at h <;> (try split at h) <;> simp at h
  rename_i n' e hu hok
  obtain ⟨rfl, rfl, rfl, rfl, rfl⟩ := h
  simp only [Bool.and_eq_true] at hok
  obtain ⟨i, z0, h1, h2, h3, h4, h5, h6, h7⟩ := okT_spec hok.1
  obtain ⟨ie, ze, g1, g2, g3, g4, g5, g6, g7⟩ := okT_spec hok.2
  exact ⟨e, i, z0, ie, ze, hu, h1, h2, by rw [h6, h3], h6.symm, by rw [h6]; exact h4, h5, h7, g1, g2, g6.symm, by rw [g6]; exact g4, rfl, rfl⟩
theorem run_size {i : TypeInfo} (hi : P.info? t = some i) (w : World) : (sizeOf t).run P w = .ok i.size w := by simp [sizeOf, typeInfo, hi]
theorem run_zero {i : TypeInfo} {z : Value} (hi : P.info? t = some i) (hz : i.zero = some z) (w : World) : (zeroValue t).run P w = .ok z w := by simp [zeroValue, typeInfo, hi, hz]
theorem aggT_false {d} (hu : P.underlying t = some d) (h : aggT P t = false) (w : World) : (isAgg t).run P w = .ok false w := by
  simp only [aggT, hu] at h
  unfold isAgg
  rw [Sem.run_bind, run_underlying hu w]
  cases d <;> first | rfl | simp at h
theorem aggT_true {d} (hu : P.underlying t = some d) (h : aggT P t = true) (w : World) : (isAgg t).run P w = .ok true w := by
  simp only [aggT, hu] at h
  unfold isAgg
  rw [Sem.run_bind, run_underlying hu w]
  cases d <;> first | rfl | simp at h

/-! Results. -/
def Outc (P : Program) (D : Value → World → Prop) : Result Next → Prop
  | .ok (.value v) w' => D v w'
  | .ok .skip w' => D Go.undef w'
  | .ok (.enter f args) w' => Calls P f args w' (fun e w'' => ∃ v, e = .returned v ∧ D v w'')
  | _ => False
def Done (K : Nat → Prop) (ρ : Nat → Loc) (S : Nat → Prop) (h : List Blk) (z : List Bool) (w : World) (e : Eff) (v' : Value) (w' : World) : Prop :=
  ∃ ρ' S', Ext K S S' ρ ρ' w w' ∧ Heap K ρ' S' (setAll h e.sets) (frzAll z e.frs) w' ∧ V3 ρ' S' w' e.v v'

structure Ctx (E : Env) (P : Program) (K : Nat → Prop) (ρ : Nat → Loc) (S : Nat → Prop) (h : List Blk) (z : List Bool) (w : World) (lk : Operand → AV) (ev : Operand → Value) (g : Nat → Option Blk) (fz : Nat → Bool) : Prop where
  eP : E.P = P
  mem : Heap K ρ S h z w
  look : ∀ x, V3 ρ S w (lk x) (ev x)
  lkF : ∀ f, lk (.func f) = .fn f
  sees : ∀ i b, g i = some b → h[i]? = some b
  frz : ∀ i, fz i = false → z.getD i false = false

variable {E : Env} {h : List Blk} {z : List Bool} {lk : Operand → AV} {ev : Operand → Value} {g : Nat → Option Blk} {fz : Nat → Bool}
theorem Done.pure (C : Ctx E P K ρ S h z w lk ev g fz) {c : AV} {v : Value} (hv : V3 ρ S w c v) : Done K ρ S h z w ⟨c, [], []⟩ v w :=
  ⟨ρ, S, Ext.refl _ _ _ _, C.mem, hv⟩

/-- A block that is seen. -/
theorem Ctx.arr (C : Ctx E P K ρ S h z w lk ev g fz) {i : Nat} {cs : List AV} (hi : g i = some (.arr cs)) : (ρ i = .virt ∧ cs = []) ∨ ∃ b ccs e, ρ i = .at b ccs.size ∧ w.heap[b]? = some (.cells ccs e (0, 0)) ∧ ∀ (j : Nat) (c : AV), cs[j]? = some c → ∃ v, ccs[j]? = some v ∧ P1 S w c v := by
  have := C.mem.blk i; rw [C.sees i _ hi] at this; exact this
theorem Ctx.obj (C : Ctx E P K ρ S h z w lk ev g fz) {i : Nat} {cs : List AV} (hi : g i = some (.obj cs)) : ∃ b ccs e, ρ i = .at b ccs.size ∧ w.heap[b]? = some (.cells ccs e (0, 0)) ∧ ∀ (j : Nat) (c : AV), cs[j]? = some c → ∃ v, ccs[j]? = some v ∧ V1 ρ S w c v := by
  have := C.mem.blk i; rw [C.sees i _ hi] at this; exact this
theorem Ctx.mp (C : Ctx E P K ρ S h z w lk ev g fz) {i : Nat} {es : List (AV × AV)} (hi : g i = some (.map es)) : ∃ b es' clock, ρ i = .at b 0 ∧ w.heap[b]? = some (.map es' clock) ∧ es'.size = es.length ∧ ∀ (j : Nat) (p : AV × AV), es[j]? = some p → ∃ e, es'[j]? = some e ∧ V2 (fun _ => .free) S w p.1 e.key ∧ V2 (fun _ => .free) S w p.2 e.val := by
  have := C.mem.blk i; rw [C.sees i _ hi] at this; exact this
theorem Ctx.cells (C : Ctx E P K ρ S h z w lk ev g fz) {i : Nat} {b : Blk} {cs : List AV} (hi : g i = some b) (hc : b.cells = some cs) : (ρ i = .virt ∧ cs = []) ∨ ∃ b ccs e, ρ i = .at b ccs.size ∧ w.heap[b]? = some (.cells ccs e (0, 0)) ∧ ∀ (j : Nat) (c : AV), cs[j]? = some c → ∃ v, ccs[j]? = some v ∧ V1 ρ S w c v := by
  cases b with
  | dead => simp [Blk.cells] at hc
  | gone => simp [Blk.cells] at hc
  | map es => simp [Blk.cells] at hc
  | arr ds =>
    simp [Blk.cells] at hc; subst hc
    rcases C.arr hi with h | ⟨b, ccs, e, h1, h2, h3⟩
    · exact .inl h
    · exact .inr ⟨b, ccs, e, h1, h2, fun j c hj => let ⟨v, a, b⟩ := h3 j c hj; ⟨v, a, b.v1⟩⟩
  | obj ds => simp [Blk.cells] at hc; subst hc; exact .inr (C.obj hi)

/-- A value without what is the call's own. -/
theorem reify1_sound (C : Ctx E P K ρ S h z w lk ev g fz) {c r : AV} {f : List Nat} {v : Value} (hr : reify1 g c = some (r, f)) (hv : V1 ρ S w c v) : P1 (Sf S ρ f) w r v := by
  have keep : ∀ {c : AV}, reify1 g c = some (c, []) → P1 S w c v → c = r ∧ [] = f → P1 (Sf S ρ f) w r v := by
    rintro c _ h ⟨rfl, rfl⟩
    exact P1.mono (fun _ h => .inl h) (fun _ _ => rfl) _ _ h
  cases c with
  | own id off n sz =>
    simp only [reify1] at hr
    split at hr
    · rename_i cs hg
      split at hr
      · rename_i hl
        simp only [Option.some.injEq, Prod.mk.injEq] at hr
        obtain ⟨rfl, rfl⟩ := hr
        simp only [V1] at hv
        rcases C.arr hg with ⟨hq, rfl⟩ | ⟨b, ccs, e, hq, hb, hc⟩
        · rw [hq] at hv
          obtain ⟨rfl, a, rfl⟩ := hv
          simp only [P1]
          exact ⟨a, 0, rfl, Nat.le_refl _, .inl (by simp)⟩
        · rw [hq] at hv
          obtain ⟨o, cap, rfl, hn, hcap, ho⟩ := hv
          simp only [P1]
          refine ⟨_, cap, rfl, hn, ?_⟩
          rcases ho with rfl | ⟨rfl, _⟩
          · refine .inr ⟨b, o, rfl, .inr ⟨id, by simp, _, hq⟩, PC.of fun j c hj => ?_⟩
            rw [List.getElem?_take] at hj
            split at hj
            · rw [List.getElem?_drop] at hj
              obtain ⟨v, hv, h1⟩ := hc _ _ hj
              exact ⟨v, by simp [World.cell?, hb, hv], P1.mono (fun _ h => .inl h) (fun _ _ => rfl) _ _ h1⟩
            · cases hj
          · exact .inl (by simp)
      · cases hr
    · cases hr
  | ptr | map | agg | tup | any | undef => simp [reify1] at hr
  | _ => simp only [reify1, Option.some.injEq, Prod.mk.injEq] at hr; exact keep rfl hv hr
theorem Sf.mono {f f' : List Nat} (h : ∀ i ∈ f, i ∈ f') (b : Nat) : Sf S ρ f b → Sf S ρ f' b
  | .inl hb => .inl hb
  | .inr ⟨i, hi, x⟩ => .inr ⟨i, h i hi, x⟩
theorem P1.sf {f f' : List Nat} (h : ∀ i ∈ f, i ∈ f') {c : AV} {v : Value} (hc : P1 (Sf S ρ f) w c v) : P1 (Sf S ρ f') w c v := P1.mono (Sf.mono h) (fun _ _ => rfl) _ _ hc
theorem reifyL_sound (C : Ctx E P K ρ S h z w lk ev g fz) : ∀ {cs rs : List AV} {f : List Nat} {vs : List Value}, reifyL g cs = some (rs, f) → (cs.length = vs.length ∧ ∀ (j : Nat) (c : AV), cs[j]? = some c → ∃ v, vs[j]? = some v ∧ V1 ρ S w c v) →
    rs.length = vs.length ∧ ∀ (j : Nat) (c : AV), rs[j]? = some c → ∃ v, vs[j]? = some v ∧ P1 (Sf S ρ f) w c v
  | [], rs, f, vs, hr, hv => by
    simp only [reifyL, Option.some.injEq, Prod.mk.injEq] at hr
    obtain ⟨rfl, rfl⟩ := hr
    exact ⟨hv.1, fun j c hj => by simp at hj⟩
  | c :: cs, rs, f, vs, hr, hv => by
    simp only [reifyL] at hr
    cases h1 : reify1 g c with
    | none => simp [h1] at hr
    | some p =>
      obtain ⟨r, a⟩ := p
      cases h2 : reifyL g cs with
      | none => simp [h1, h2] at hr
      | some q =>
        obtain ⟨rs', b⟩ := q
        simp only [h1, h2, Option.some.injEq, Prod.mk.injEq] at hr
        obtain ⟨rfl, rfl⟩ := hr
        cases vs with
        | nil => simp at hv
        | cons v vs =>
          obtain ⟨u, hu, hc⟩ := hv.2 0 c rfl
          simp at hu; subst hu
          have ih := reifyL_sound C (vs := vs) h2 ⟨by simpa using hv.1, fun j c hj => by simpa using hv.2 (j + 1) c (by simpa using hj)⟩
          refine ⟨by simp [ih.1], fun j d hj => ?_⟩
          cases j with
          | zero => simp at hj; subst hj; exact ⟨v, rfl, (reify1_sound C h1 hc).sf (by simp; intro i hi; exact .inl hi)⟩
          | succ j =>
            obtain ⟨u, hu, hd⟩ := ih.2 j d (by simpa using hj)
            exact ⟨u, by simpa using hu, hd.sf (by simp; intro i hi; exact .inr hi)⟩
theorem reify_sound (C : Ctx E P K ρ S h z w lk ev g fz) {c r : AV} {f : List Nat} {v : Value} (hr : reify g c = some (r, f)) (hv : V3 ρ S w c v) : V2 (fun _ => .free) (Sf S ρ f) w r v := by
  cases c with
  | agg cs =>
    simp only [reify] at hr
    cases h1 : reifyL g cs with
    | none => simp [h1] at hr
    | some p =>
      obtain ⟨rs, a⟩ := p
      simp only [h1, Option.some.injEq, Prod.mk.injEq] at hr
      obtain ⟨rfl, rfl⟩ := hr
      obtain ⟨vs, rfl, hc⟩ := agg_of hv
      have := reifyL_sound C h1 (vs := vs.toList) ⟨by simpa using hc.1, by simpa using hc.2⟩
      simp only [V2]
      exact ⟨vs, rfl, by simpa using this.1, fun j c hj => let ⟨v, a, b⟩ := this.2 j c hj; ⟨v, by simpa using a, b.v1⟩⟩
  | tup cs => simp [reify, reify1] at hr
  | any => simp [reify, reify1] at hr
  | undef => simp [reify, reify1] at hr
  | _ => simp only [reify] at hr; exact (reify1_sound C hr hv).v1.v2
theorem V2.sf {ρ' : Nat → Loc} {f f' : List Nat} (h : ∀ i ∈ f, i ∈ f') {c : AV} {v : Value} (hc : V2 ρ' (Sf S ρ f) w c v) : V2 ρ' (Sf S ρ f') w c v := hc.mono (Sf.mono h) (fun _ _ => rfl) (fun _ => .inr (.inl rfl))
theorem reifyA_sound (C : Ctx E P K ρ S h z w lk ev g fz) : ∀ {cs rs : List AV} {f : List Nat} {vs : List Value}, reifyA g cs = some (rs, f) → (cs.length = vs.length ∧ ∀ (j : Nat) (c : AV), cs[j]? = some c → ∃ v, vs[j]? = some v ∧ V3 ρ S w c v) →
    rs.length = vs.length ∧ ∀ (j : Nat) (c : AV), rs[j]? = some c → ∃ v, vs[j]? = some v ∧ V2 (fun _ => .free) (Sf S ρ f) w c v
  | [], rs, f, vs, hr, hv => by
    simp only [reifyA, Option.some.injEq, Prod.mk.injEq] at hr
    obtain ⟨rfl, rfl⟩ := hr
    exact ⟨hv.1, fun j c hj => by simp at hj⟩
  | c :: cs, rs, f, vs, hr, hv => by
    simp only [reifyA] at hr
    cases h1 : reify g c with
    | none => simp [h1] at hr
    | some p =>
      obtain ⟨r, a⟩ := p
      cases h2 : reifyA g cs with
      | none => simp [h1, h2] at hr
      | some q =>
        obtain ⟨rs', b⟩ := q
        simp only [h1, h2, Option.some.injEq, Prod.mk.injEq] at hr
        obtain ⟨rfl, rfl⟩ := hr
        cases vs with
        | nil => simp at hv
        | cons v vs =>
          obtain ⟨u, hu, hc⟩ := hv.2 0 c rfl
          simp at hu; subst hu
          have ih := reifyA_sound C (vs := vs) h2 ⟨by simpa using hv.1, fun j c hj => by simpa using hv.2 (j + 1) c (by simpa using hj)⟩
          refine ⟨by simp [ih.1], fun j d hj => ?_⟩
          cases j with
          | zero => simp at hj; subst hj; exact ⟨v, rfl, (reify_sound C h1 hc).sf (by simp; intro i hi; exact .inl hi)⟩
          | succ j =>
            obtain ⟨u, hu, hd⟩ := ih.2 j d (by simpa using hj)
            exact ⟨u, by simpa using hu, hd.sf (by simp; intro i hi; exact .inr hi)⟩
end
/- Operations that compute, and those that read. -/
open Go
section
variable {K S : Nat → Prop} {w : World} {ρ : Nat → Loc} {P : Program} {E : Env} {h : List Blk} {z : List Bool} {lk : Operand → AV} {ev : Operand → Value} {g : Nat → Option Blk} {fz : Nat → Bool} {slot : Nat} {o : Oper} {e : Eff}

abbrev OpGoal (P : Program) (K : Nat → Prop) (ρ : Nat → Loc) (S : Nat → Prop) (h : List Blk) (z : List Bool) (w : World) (ev : Operand → Value) (o : Oper) (e : Eff) : Prop :=
  Outc P (Done K ρ S h z w e) ((execOp ev o).run P w)

theorem op_move (C : Ctx E P K ρ S h z w lk ev g fz) {x : Operand} (ho : o.op = .move x) (he : eff E lk g fz slot o.op = some e) : OpGoal P K ρ S h z w ev o e := by
  rw [ho] at he; simp only [eff, pur, Option.some.injEq] at he; subst he
  unfold OpGoal execOp; simp only [ho]
  exact Done.pure C (C.look x)
theorem op_assign (C : Ctx E P K ρ S h z w lk ev g fz) {x : Operand} (ho : o.op = .assign x) (he : eff E lk g fz slot o.op = some e) : OpGoal P K ρ S h z w ev o e := by
  rw [ho] at he; simp only [eff, pur, Option.some.injEq] at he; subst he
  unfold OpGoal execOp; simp only [ho]
  exact Done.pure C (C.look x)
theorem op_pick (C : Ctx E P K ρ S h z w lk ev g fz) {c x y : Operand} (ho : o.op = .pick c x y) (he : eff E lk g fz slot o.op = some e) : OpGoal P K ρ S h z w ev o e := by
  rw [ho] at he; simp only [eff] at he
  unfold OpGoal execOp; simp only [ho]
  cases hc : lk c <;> simp only [hc, reduceCtorEq] at he
  rename_i b
  have hb : ev c = .bool b := bool_of (hc ▸ C.look c)
  have hr : (do pure (Next.value (if ← asBool (ev c) then ev x else ev y)) : Sem Next).run P w = .ok (.value (if b then ev x else ev y)) w := by
    simp [hb, asBool]
  rw [hr]
  show Done _ _ _ _ _ _ _ _ _
  have hxy : V3 ρ S w (if b then lk x else lk y) (if b then ev x else ev y) := by cases b; exact C.look y; exact C.look x
  split at he
  · rename_i p q hp hq
    simp only [pur, Option.some.injEq] at he; subst he
    refine Done.pure C ?_
    cases b
    · have := C.look y; rw [hq] at this; simpa using this
    · have := C.look x; rw [hp] at this; simpa using this
  · simp only [pur, Option.some.injEq] at he; subst he
    exact Done.pure C hxy

/-! Numbers, texts, truths. -/
def toV : AV → Value
  | .int k n => .int k n
  | .bool b => .bool b
  | .str s => .string s
  | _ => Go.undef
theorem run_arith {op : BinOp} {k : IntKind} {a b : Int} {r : AV} (h : arith op k a b = some r) (hs : op ≠ .shl) (ht : op ≠ .shr) (t : TypeId) (w : World) : (binOp op t (.int k a) (.int k b)).run P w = .ok (toV r) w ∧ P1 S w r (toV r) := by
  cases op <;> simp only [arith, Option.some.injEq, reduceCtorEq] at h <;> first
    | (exact (hs rfl).elim)
    | (exact (ht rfl).elim)
    | (subst h; refine ⟨?_, by simp only [toV, P1]⟩; simp only [binOp, Op.intArith, Op.intBits, Op.intCmp, ne_eq, not_true_eq_false, if_false, Sem.run_pure, toV])
    | (split at h <;> simp only [Option.some.injEq, reduceCtorEq] at h; rename_i hb; subst h; refine ⟨?_, by simp only [toV, P1]⟩; simp only [binOp, Op.intDiv, ne_eq, not_true_eq_false, if_false, if_neg hb, Sem.run_pure, toV])
theorem run_shift {op : BinOp} {k k' : IntKind} {a b : Int} {r : AV} (h : shiftA op k a b = some r) (t : TypeId) (w : World) : (binOp op t (.int k a) (.int k' b)).run P w = .ok (toV r) w ∧ P1 S w r (toV r) := by
  unfold shiftA at h
  split at h
  · cases h
  rename_i hb
  cases op <;> simp only [Option.some.injEq, reduceCtorEq] at h <;> (subst h; exact ⟨by simp only [binOp, Op.shift, if_neg hb, Sem.run_pure, toV], by simp only [toV, P1]⟩)
theorem run_strOp {op : BinOp} {a b : ByteArray} {r : AV} (h : strOp op a b = some r) (t : TypeId) (w : World) : (binOp op t (.string a) (.string b)).run P w = .ok (toV r) w ∧ P1 S w r (toV r) := by
  cases op <;> simp only [strOp, Option.some.injEq, reduceCtorEq] at h <;> first
    | (split at h <;> simp only [Option.some.injEq, reduceCtorEq] at h; rename_i hb; subst h; refine ⟨?_, by simp only [toV, P1]⟩; simp only [binOp, Op.stringOp, if_neg hb, Sem.run_pure, toV])
    | (subst h; exact ⟨by simp only [binOp, Op.stringOp, Sem.run_pure, toV], by simp only [toV, P1]⟩)
theorem run_eqGuard {op : BinOp} {t : TypeId} {x y : Operand} {a b : Value} (h : (∃ k n, a = .int k n) ∨ (∃ s, a = .string s) ∨ (∃ c, a = .bool c) ∨ (∃ s n c, a = .slice s n c)) (w : World) : (eqGuard op t x y a b).run P w = .ok () w := by
  rcases h with ⟨k, n, rfl⟩ | ⟨s, rfl⟩ | ⟨c, rfl⟩ | ⟨s, n, c, rfl⟩ <;> (unfold eqGuard; cases op <;> simp)
theorem run_eqGuard' {op : BinOp} {t : TypeId} {x y : Operand} {a b : Value} (h : ((∃ k n, a = .int k n) ∨ (∃ s, a = .string s) ∨ (∃ c, a = .bool c) ∨ (∃ s n c, a = .slice s n c)) ∨ (∃ xs ys, a = .agg xs ∧ b = .agg ys ∧ P.eqGuardType P.depth t = false)) (w : World) : (eqGuard op t x y a b).run P w = .ok () w := by
  rcases h with h | ⟨xs, ys, rfl, rfl, hm⟩
  · exact run_eqGuard h w
  · exact run_eqGuard_agg w op t x y xs ys hm
theorem part_of0 {t : TypeId} {cs : List AV} {vs : Array Value} {off : Nat} {r : AV} (hc : CR (V1 ρ S w) cs vs) (hr : partK cs off (kindT P t) = some r) : ∃ v, (part t vs off).run P w = .ok v w ∧ V2 ρ S w r v := by
  cases hk : kindT P t with
  | none => simp [hk, partK] at hr
  | some q =>
    obtain ⟨n, a⟩ := q
    simp only [hk, partK] at hr
    unfold kindT at hk
    split at hk
    · rename_i hok
      simp only [Option.some.injEq, Prod.mk.injEq] at hk
      obtain ⟨rfl, rfl⟩ := hk
      obtain ⟨d, hu⟩ : ∃ d, P.underlying t = some d := by
        unfold okT at hok
        simp only [Bool.and_eq_true] at hok
        exact Option.isSome_iff_exists.1 hok.1
      obtain ⟨i, z0, h1, h2, h3, h4, h5, h6, h7⟩ := okT_spec hok
      unfold partA at hr
      cases ha : aggT P t with
      | false =>
        simp only [ha, Bool.false_eq_true, if_false] at hr
        obtain ⟨v, hv, h1⟩ := hc.2 _ _ hr
        exact ⟨v, by simp only [part, Sem.run_bind, aggT_false hu ha, Result.andThen_ok, Bool.false_eq_true, if_false, hv, Sem.run_pure], h1.v2⟩
      | true =>
        simp only [ha, if_true] at hr
        split at hr
        · rename_i hl
          simp only [Option.some.injEq] at hr; subst hr
          have hi : i.size = sizeT P t := h6.symm
          have hsz : off + i.size ≤ vs.size := by rw [hi, ← hc.1]; exact hl
          refine ⟨.agg (vs.extract off (off + i.size)), ?_, ?_⟩
          · simp only [part, Sem.run_bind, aggT_true hu ha, Result.andThen_ok, if_true, run_size h1, hsz, Sem.run_pure]
          · simp only [V2]
            refine ⟨_, rfl, by simp [hi]; have := hc.1; omega, fun j c hj => ?_⟩
            rw [List.getElem?_take] at hj
            split at hj
            · rw [List.getElem?_drop] at hj
              obtain ⟨v, hv, h1⟩ := hc.2 _ _ hj
              refine ⟨v, ?_, h1⟩
              rw [Array.getElem?_extract]
              rw [if_pos (by rw [hi]; omega)]
              exact hv
            · cases hj
        · cases hr
    · cases hk
theorem eqA_sound : ∀ (d : Nat) (t : TypeId) (x y : AV) (r : Bool) (v u : Value) (dd : Nat), eqA P d t x y = some r → V2 ρ S w x v → V2 ρ S w y u → (Op.equalIn (dd + d) t v u).run P w = .ok r w
  | 0, t, x, y, r, v, u, dd, h, _, _ => by simp [eqA] at h
  | d + 1, t, x, y, r, v, u, dd, h, hx, hy => by
    unfold eqA at h
    rw [show dd + (d + 1) = (dd + d) + 1 from rfl]
    split at h
    · rename_i k0 k a k' b hu
      split at h
      · rename_i hk; subst hk
        cases h
        rw [int_of hx.v3, int_of hy.v3]
        exact run_equalIn_int w (dd + d) t _ _ a b hu
      · cases h
    · rename_i a b hu
      cases h
      rw [bool_of hx.v3, bool_of hy.v3]
      exact run_equalIn_bool w (dd + d) t a b hu
    · rename_i fs xs ys hu
      split at h
      · cases h
      · rename_i hst
        simp only [V2] at hx hy
        obtain ⟨vs, rfl, hvs⟩ := hx
        obtain ⟨us, rfl, hus⟩ := hy
        have hfs : P.fieldsOf t = fs := by simp [Program.fieldsOf, hu]
        rw [run_equalIn_struct w (dd + d) t vs us (by rw [hfs]; exact hu) (by simpa using hst), hfs]
        generalize fs.toList = l at h
        clear hu hfs
        induction l generalizing r with
        | nil => simp only [eqFs, Option.some.injEq] at h; subst h; simp [Op.eqFields]
        | cons f l ih =>
          simp only [eqFs] at h
          split at h
          · cases h
          · rename_i hn
            split at h
            · rename_i a b ha hb
              split at h
              · rename_i p q hp hq
                cases h
                obtain ⟨v1, r1, h1⟩ := part_of0 hvs ha
                obtain ⟨u1, r2, h2⟩ := part_of0 hus hb
                have h3 := eqA_sound d f.type a b p v1 u1 dd hp h1 h2
                simp only [Op.eqFields, ne_eq, hn, not_false_eq_true, if_true, Sem.run_bind, r1, r2, h3, Result.andThen_ok]
                cases p
                · simp
                · simpa using ih q hq
              · cases h
            · cases h
    · rename_i n e xs ys hu
      split at h
      · rename_i hi
        obtain ⟨i, hi⟩ := Option.isSome_iff_exists.1 hi
        simp only [V2] at hx hy
        obtain ⟨vs, rfl, hvs⟩ := hx
        obtain ⟨us, rfl, hus⟩ := hy
        rw [run_equalIn_array w (dd + d) vs us hu hi]
        have hc : P.cellsOf e = sizeT P e := by simp [Program.cellsOf, sizeT, hi]
        rw [hc]
        generalize List.range n = l at h
        clear hu
        induction l generalizing r with
        | nil => simp only [eqIs, Option.some.injEq] at h; subst h; simp [Op.eqItems]
        | cons j l ih =>
          simp only [eqIs] at h
          split at h
          · rename_i a b ha hb
            split at h
            · rename_i p q hp hq
              cases h
              obtain ⟨v1, r1, h1⟩ := part_of0 hvs ha
              obtain ⟨u1, r2, h2⟩ := part_of0 hus hb
              have h3 := eqA_sound d e a b p v1 u1 dd hp h1 h2
              simp only [Op.eqItems, Sem.run_bind, r1, r2, h3, Result.andThen_ok]
              cases p
              · simp
              · simpa using ih q hq
            · cases h
          · cases h
      · cases h
    · cases h
theorem nilQ_of (H : Heap K ρ S h z w) {x : AV} {v : Value} {b : Bool} (hx : V3 ρ S w x v) (hn : nilQ x = some b) : ∃ A n c, v = .slice A n c ∧ b = A.isNone := by
  cases x <;> simp only [nilQ, reduceCtorEq] at hn
  · cases hn; rw [nil_of hx]; exact ⟨none, 0, 0, rfl, rfl⟩
  · split at hn
    · cases hn
      obtain ⟨a, cap, rfl, _, h⟩ := row_of hx
      rcases h with ⟨h, _⟩ | ⟨b, o, rfl, _⟩
      · omega
      · exact ⟨_, _, _, rfl, rfl⟩
    · cases hn
  · rename_i id off n sz
    split at hn
    · rename_i hp
      cases hn
      simp only [V3, V2, V1] at hx
      split at hx
      · exact hx.elim
      · obtain ⟨a, cap, rfl, _, h⟩ := hx
        rcases h with h | ⟨b, rfl⟩
        · omega
        · exact ⟨_, _, _, rfl, rfl⟩
      · omega
      · obtain ⟨o, cap, rfl, _⟩ := hx
        exact ⟨_, _, _, rfl, rfl⟩
    · cases hn
theorem op_bin (C : Ctx E P K ρ S h z w lk ev g fz) {op : BinOp} {t t' : TypeId} {x y : Operand} (ho : o.op = .binOp op t x y t') (he : eff E lk g fz slot o.op = some e) : OpGoal P K ρ S h z w ev o e := by
  rw [ho] at he; simp only [eff] at he
  cases hb : binA E.P op t (lk x) (lk y) with
  | none => simp [hb] at he
  | some r =>
    simp only [hb, pur, Option.some.injEq] at he; subst he
    have key : ∃ v, (binOp op t (ev x) (ev y)).run P w = .ok v w ∧ P1 S w r v ∧ (((∃ k n, ev x = .int k n) ∨ (∃ s, ev x = .string s) ∨ (∃ c, ev x = .bool c) ∨ (∃ s n c, ev x = .slice s n c)) ∨ (∃ xs ys, ev x = .agg xs ∧ ev y = .agg ys ∧ P.eqGuardType P.depth t = false)) := by
      have hx := C.look x
      have hy := C.look y
      unfold binA at hb
      split at hb
      · rename_i k a k' b e1 e2
        rw [e1] at hx; rw [e2] at hy
        rw [int_of hx, int_of hy]
        split at hb
        · obtain ⟨h1, h2⟩ := run_shift (P := P) (S := S) (k' := k') hb t w; exact ⟨_, h1, h2, .inl (.inl ⟨_, _, rfl⟩)⟩
        · obtain ⟨h1, h2⟩ := run_shift (P := P) (S := S) (k' := k') hb t w; exact ⟨_, h1, h2, .inl (.inl ⟨_, _, rfl⟩)⟩
        · split at hb
          · rename_i n1 n2 hk; subst hk
            obtain ⟨h1, h2⟩ := run_arith (P := P) (S := S) hb (by intro q; exact n1 q) (by intro q; exact n2 q) t w
            exact ⟨_, h1, h2, .inl (.inl ⟨_, _, rfl⟩)⟩
          · cases hb
      · rename_i a b e1 e2
        rw [e1] at hx; rw [e2] at hy
        rw [str_of hx, str_of hy]
        obtain ⟨h1, h2⟩ := run_strOp (P := P) (S := S) hb t w
        exact ⟨_, h1, h2, .inl (.inr (.inl ⟨_, rfl⟩))⟩
      · rename_i a b e1 e2
        rw [e1] at hx; rw [e2] at hy
        rw [bool_of hx, bool_of hy]
        split at hb
        · rename_i ht
          rw [C.eP] at ht
          have hu := td_bool ht
          split at hb <;> simp only [Option.some.injEq, reduceCtorEq] at hb
          · subst hb; refine ⟨.bool (a == b), ?_, by simp only [P1], .inl (.inr (.inr (.inl ⟨_, rfl⟩)))⟩
            show (do pure (Value.bool (← Op.equal t (.bool a) (.bool b))) : Sem Value).run P w = _
            simp only [Sem.run_bind, run_equal_bool w t a b hu, Result.andThen_ok, Sem.run_pure]
          · subst hb; refine ⟨.bool (!(a == b)), ?_, by simp only [P1], .inl (.inr (.inr (.inl ⟨_, rfl⟩)))⟩
            show (do pure (Value.bool (!(← Op.equal t (.bool a) (.bool b)))) : Sem Value).run P w = _
            simp only [Sem.run_bind, run_equal_bool w t a b hu, Result.andThen_ok, Sem.run_pure]
        · cases hb
      · rename_i xs ys e1 e2
        rw [e1] at hx; rw [e2] at hy
        split at hb
        · cases hb
        · rename_i hg
          have hg : P.eqGuardType P.depth t = false := by rw [C.eP] at hg; simpa using hg
          rw [C.eP] at hb
          cases hq : eqA P 8 t (.agg xs) (.agg ys) with
          | none => simp [hq] at hb
          | some r0 =>
            simp only [hq] at hb
            obtain ⟨vs, hv, hcv⟩ := agg_of hx
            obtain ⟨us, hu, hcu⟩ := agg_of hy
            have h2x : V2 ρ S w (.agg xs) (ev x) := hx
            have h2y : V2 ρ S w (.agg ys) (ev y) := hy
            have heq := eqA_sound 8 t _ _ r0 _ _ 9992 hq h2x h2y
            rw [show 9992 + 8 = 10000 from rfl] at heq
            have hE2 : (Op.equal t (ev x) (ev y)).run P w = .ok r0 w := heq
            unfold nilOp at hb
            split at hb <;> simp only [Option.some.injEq, reduceCtorEq] at hb
            · subst hb
              refine ⟨.bool r0, ?_, by simp only [P1], .inr ⟨vs, us, hv, hu, hg⟩⟩
              rw [hv, hu] at hE2 ⊢
              show (do pure (Value.bool (← Op.equal t (.agg vs) (.agg us))) : Sem Value).run P w = _
              simp only [Sem.run_bind, hE2, Result.andThen_ok, Sem.run_pure]
            · subst hb
              refine ⟨.bool (!r0), ?_, by simp only [P1], .inr ⟨vs, us, hv, hu, hg⟩⟩
              rw [hv, hu] at hE2 ⊢
              show (do pure (Value.bool (!(← Op.equal t (.agg vs) (.agg us)))) : Sem Value).run P w = _
              simp only [Sem.run_bind, hE2, Result.andThen_ok, Sem.run_pure]
      · rename_i e2
        rw [e2] at hy
        split at hb
        · rename_i ht hn
          rw [C.eP] at ht
          have hu := (td_slice ht).1
          obtain ⟨A, n, c, hv, hb2⟩ := nilQ_of C.mem hx hn
          rw [nil_of hy, hv]
          unfold nilOp at hb
          split at hb <;> simp only [Option.some.injEq, reduceCtorEq] at hb
          · subst hb; subst hb2
            exact ⟨.bool A.isNone, Lib.run_eql_slice_nil w t _ A n c 0 0 hu, by simp only [P1], .inl (.inr (.inr (.inr ⟨_, _, _, rfl⟩)))⟩
          · subst hb; subst hb2
            refine ⟨.bool (!A.isNone), ?_, by simp only [P1], .inl (.inr (.inr (.inr ⟨_, _, _, rfl⟩)))⟩
            have := Lib.run_eql_slice_nil (P := P) w t _ A n c 0 0 hu
            simp only [binOp, Sem.run_bind] at this ⊢
            cases hq : (Op.equal t (.slice A n c) (.slice none 0 0)).run P w with
            | ok q w1 => rw [hq] at this; simp only [Result.andThen_ok, Sem.run_pure, Result.ok.injEq, Value.bool.injEq] at this ⊢; obtain ⟨rfl, rfl⟩ := this; exact ⟨rfl, rfl⟩
            | halt q w1 => rw [hq] at this; simp at this
        · cases hb
      · cases hb
    obtain ⟨v, h1, h2, h3⟩ := key
    unfold OpGoal execOp; simp only [ho, Sem.run_bind, run_eqGuard' h3, Result.andThen_ok, h1, Sem.run_pure]
    exact Done.pure C h2.v1.v2.v3
theorem op_un (C : Ctx E P K ρ S h z w lk ev g fz) {op : UnOp} {t : TypeId} {x : Operand} (ho : o.op = .unOp op t x) (he : eff E lk g fz slot o.op = some e) : OpGoal P K ρ S h z w ev o e := by
  rw [ho] at he; simp only [eff] at he
  cases hb : unA op (lk x) with
  | none => simp [hb] at he
  | some r =>
    simp only [hb, pur, Option.some.injEq] at he; subst he
    have hx := C.look x
    have key : ∃ v, (Op.unary op (ev x)).run P w = .ok v w ∧ P1 S w r v := by
      unfold unA at hb
      split at hb <;> simp only [Option.some.injEq, reduceCtorEq] at hb
      · rename_i k n e1; rw [e1] at hx; rw [int_of hx]; subst hb; exact ⟨.int k (k.wrap (0 - n)), by simp only [Op.unary, Op.intArith, Sem.run_pure], by simp only [P1]⟩
      · rename_i k n e1; rw [e1] at hx; rw [int_of hx]; subst hb; exact ⟨.int k (k.wrap (BitVec.ofInt k.bits (if k.signed then -1 else k.max) ^^^ BitVec.ofInt k.bits n).toNat), by simp only [Op.unary, Op.intBits, Sem.run_pure], by simp only [P1]⟩
      · rename_i b e1; rw [e1] at hx; rw [bool_of hx]; subst hb; exact ⟨.bool !b, by simp only [Op.unary, Sem.run_pure], by simp only [P1]⟩
    obtain ⟨v, h1, h2⟩ := key
    unfold OpGoal execOp; simp only [ho, Sem.run_bind, Result.andThen_ok, h1, Sem.run_pure]
    exact Done.pure C h2.v1.v2.v3
theorem op_nilCheck (C : Ctx E P K ρ S h z w lk ev g fz) {x : Operand} (ho : o.op = .nilCheck x) (he : eff E lk g fz slot o.op = some e) : OpGoal P K ρ S h z w ev o e := by
  rw [ho] at he; simp only [eff] at he
  have hx := C.look x
  unfold OpGoal execOp; simp only [ho]
  split at he <;> simp only [pur, Option.some.injEq, reduceCtorEq] at he <;> subst he
  · rename_i id off e1
    rw [e1] at hx
    obtain ⟨b, hv⟩ := V1.ptr_shape (v1_of hx (by simp) (by simp) (by simp) (by simp))
    rw [hv]; rw [hv] at hx; exact Done.pure C hx
  · rename_i e1; rw [e1] at hx; have hx' := hx; obtain ⟨b, o', hv, _⟩ := rptr_of hx; rw [hv]; rw [hv] at hx'; exact Done.pure C hx'
  · rename_i e1; rw [e1] at hx; have hx' := hx; have := fn_of hx; rw [this]; rw [this] at hx'; exact Done.pure C hx'
theorem op_extract (C : Ctx E P K ρ S h z w lk ev g fz) {x : Operand} {i : Nat} (ho : o.op = .extract x i) (he : eff E lk g fz slot o.op = some e) : OpGoal P K ρ S h z w ev o e := by
  rw [ho] at he; simp only [eff] at he
  have hx := C.look x
  unfold OpGoal execOp; simp only [ho]
  split at he
  · rename_i us e1
    rw [e1] at hx
    simp only [V3] at hx
    obtain ⟨vs, hv, hc⟩ := hx
    cases hu : us[i]? with
    | none => simp [hu] at he
    | some r =>
      simp only [hu, pur, Option.some.injEq] at he; subst he
      obtain ⟨v, h1, h2⟩ := hc.2 i r hu
      simp only [hv, Instr.extract, h1, Sem.run_bind, Sem.run_pure, Result.andThen_ok]
      exact Done.pure C h2.v3
  · cases he
end
/- Operations that read memory, and places in it. -/
section
variable {K S : Nat → Prop} {w : World} {ρ : Nat → Loc} {P : Program} {E : Env} {h : List Blk} {z : List Bool} {lk : Operand → AV} {ev : Operand → Value} {g : Nat → Option Blk} {fz : Nat → Bool} {slot : Nat} {o : Oper} {e : Eff}

theorem Addr_add (b o j : Nat) : (⟨b, o, none⟩ : Addr).add j = ⟨b, o + j, none⟩ := by unfold Addr.add; split <;> simp_all

/-- Cells from a place on. -/
def At (R : AV → Value → Prop) (w : World) (b o : Nat) (cs : List AV) : Prop := ∀ (j : Nat) (c : AV), cs[j]? = some c → ∃ v, w.cell? ⟨b, o + j, none⟩ = some v ∧ R c v
theorem At.len {R : AV → Value → Prop} {b o : Nat} {cs : List AV} (hA : At R w b o cs) {ccs : Array Value} {e : TypeId} {fr : Nat × Nat} (hb : w.heap[b]? = some (.cells ccs e fr)) : cs = [] ∨ o + cs.length ≤ ccs.size := by
  cases hc : cs with
  | nil => exact .inl rfl
  | cons c r =>
    right
    have hl : cs.length - 1 < cs.length := by rw [hc]; simp
    obtain ⟨v, hv, _⟩ := hA _ _ (List.getElem?_eq_getElem hl)
    simp only [World.cell?, hb, Option.isSome_none, Bool.false_eq_true, if_false] at hv
    have := (Array.getElem?_eq_some_iff.1 hv).1
    rw [← hc]
    have : 0 < cs.length := by rw [hc]; simp
    omega

/-- A part of an aggregate's cells, or a variable in memory. -/
theorem partA_at {b o off n : Nat} {ag : Bool} {cs : List AV} {r : AV} (hA : At (V1 ρ S w) w b o cs) (hr : partA cs off n ag = some r) :
    if ag then ∃ vs : List Value, vs.length = n ∧ w.rangeAt b (o + off) vs ∧ V2 ρ S w r (.agg vs.toArray) else ∃ v, w.cell? ⟨b, o + off, none⟩ = some v ∧ V1 ρ S w r v := by
  unfold partA at hr
  cases ag with
  | false =>
    simp only [Bool.false_eq_true, if_false] at hr ⊢
    exact hA _ _ hr
  | true =>
    simp only [if_true] at hr ⊢
    split at hr
    · rename_i hl
      simp only [Option.some.injEq] at hr; subst hr
      have get : ∀ j, j < n → ∃ v, w.cell? ⟨b, o + off + j, none⟩ = some v ∧ ∀ c, cs[off + j]? = some c → V1 ρ S w c v := by
        intro j hj
        have hlt : off + j < cs.length := by omega
        obtain ⟨v, hv, hc⟩ := hA _ _ (List.getElem?_eq_getElem hlt)
        exact ⟨v, by rwa [Nat.add_assoc], fun c hc' => by rw [List.getElem?_eq_getElem hlt] at hc'; cases hc'; exact hc⟩
      let vs := (List.range n).map fun j => (w.cell? ⟨b, o + off + j, none⟩).getD Go.undef
      have hvs : ∀ j, j < n → vs[j]? = w.cell? ⟨b, o + off + j, none⟩ := by
        intro j hj
        obtain ⟨v, hv, _⟩ := get j hj
        simp [vs, hj, hv]
      refine ⟨vs, by simp [vs], fun j v hv => ?_, ?_⟩
      · have hj : j < n := by have := (List.getElem?_eq_some_iff.1 hv).1; simpa [vs] using this
        rw [← hvs j hj]; exact hv
      · simp only [V2]
        refine ⟨_, rfl, by simp [vs]; omega, fun j c hj => ?_⟩
        rw [List.getElem?_take] at hj
        split at hj
        · rename_i hjn
          rw [List.getElem?_drop] at hj
          obtain ⟨v, hv, hc⟩ := get j hjn
          refine ⟨v, ?_, hc c hj⟩
          rw [List.getElem?_toArray, hvs j hjn, hv]
        · cases hj
    · cases hr

theorem load_at {b o off : Nat} {t : TypeId} {cs : List AV} {r : AV} (hA : At (V1 ρ S w) w b o cs) (hr : partK cs off (kindT P t) = some r) :
    ∃ v, (loadVar t ⟨b, o + off, none⟩).run P w = .ok v w ∧ V2 ρ S w r v := by
  cases hk : kindT P t with
  | none => simp [hk, partK] at hr
  | some q =>
    obtain ⟨n, a⟩ := q
    obtain ⟨hok, hn, ha⟩ := kindT_spec hk
    obtain ⟨d, hu⟩ := okT_under hok
    obtain ⟨i, z0, h1, h2, h3, h4, h5, h6, h7⟩ := okT_spec hok
    simp only [hk, partK] at hr
    have := partA_at hA hr
    cases a with
    | false =>
      simp only [Bool.false_eq_true, if_false] at this
      obtain ⟨v, hv, h1⟩ := this
      refine ⟨v, ?_, h1.v2⟩
      simp only [loadVar, Sem.run_bind, aggT_false hu ha.symm, Result.andThen_ok, Bool.false_eq_true, if_false, run_load, hv]
    | true =>
      simp only [if_true] at this
      obtain ⟨vs, hl, hv, hc⟩ := this
      refine ⟨.agg vs.toArray, ?_, hc⟩
      have hrow : d.isRow = true := by
        have := ha.symm; simp only [aggT, hu] at this
        cases d <;> first | rfl | simp at this
      exact run_loadVar_mid (P := P) w b (o + off) t vs d hv hu hrow (by rw [h1]; simp [← h6, hl, hn])

theorem op_load (C : Ctx E P K ρ S h z w lk ev g fz) {t : TypeId} {x : Operand} (ho : o.op = .load t x) (he : eff E lk g fz slot o.op = some e) : OpGoal P K ρ S h z w ev o e := by
  rw [ho] at he; simp only [eff, C.eP] at he
  have hx := C.look x
  unfold OpGoal execOp; simp only [ho]
  split at he
  · rename_i id off e1
    rw [e1] at hx
    cases hg : g id with
    | none => simp [hg] at he
    | some b =>
      simp only [hg] at he
      cases hc : b.cells with
      | none => simp [hc] at he
      | some cs =>
        simp only [hc] at he
        cases hp : partK cs off (kindT P t) with
        | none => simp [hp] at he
        | some r =>
          simp only [hp, pur, Option.some.injEq] at he; subst he
          have hv := v1_of hx (by simp) (by simp) (by simp) (by simp)
          simp only [V1] at hv
          rcases C.cells hg hc with ⟨hq, _⟩ | ⟨b, ccs, ty, hq, hb, hcs⟩
          · rw [hq] at hv; exact hv.elim
          · rw [hq] at hv
            simp only at hv
            have hA : At (V1 ρ S w) w b 0 cs := fun j c hj => by
              obtain ⟨v, hv, h1⟩ := hcs j c hj
              exact ⟨v, by simp [World.cell?, hb, hv], h1⟩
            obtain ⟨v, h1, h2⟩ := load_at hA hp
            rw [Nat.zero_add] at h1
            simp only [hv, Instr.loadAt, Instr.sureAddr, Sem.run_bind, Sem.run_pure, Result.andThen_ok, h1]
            exact Done.pure C h2.v3
  · rename_i cs off e1
    rw [e1] at hx
    cases hp : partK cs off (kindT P t) with
    | none => simp [hp] at he
    | some r =>
      simp only [hp, pur, Option.some.injEq] at he; subst he
      obtain ⟨b, o', hv, hS, hc⟩ := rptr_of hx
      have hA : At (V1 ρ S w) w b o' cs := fun j c hj => by
        obtain ⟨v, hv, h1⟩ := hc.get hj
        exact ⟨v, hv, h1.v1⟩
      obtain ⟨v, h1, h2⟩ := load_at hA hp
      simp only [hv, Instr.loadAt, Instr.sureAddr, Sem.run_bind, Sem.run_pure, Result.andThen_ok, h1]
      exact Done.pure C h2.v3
  · cases he

/-! Places. -/
theorem op_fieldAddr (C : Ctx E P K ρ S h z w lk ev g fz) {t : TypeId} {x : Operand} {f : Nat} (ho : o.op = .fieldAddr t x f) (he : eff E lk g fz slot o.op = some e) : OpGoal P K ρ S h z w ev o e := by
  rw [ho] at he; simp only [eff, C.eP] at he
  have hx := C.look x
  unfold OpGoal execOp; simp only [ho]
  have key : ∀ {size zz} {fs : List (Nat × Nat × Bool)} {off sz ag b o'}, tdesc P t = .struct size zz fs → fs[f]? = some (off, sz, ag) → ev x = .pointer (some ⟨b, o', none⟩) →
      (Instr.fieldAt t (ev x) f).run P w = .ok (.pointer (some ⟨b, o' + off, none⟩)) w := by
    intro size zz fs off sz ag b o' ht hf hv
    obtain ⟨l, i, z0, hu, _, _, _, _, _, _, _, rfl, hall⟩ := td_struct ht
    rw [List.getElem?_map] at hf
    cases hfl : l.toList[f]? with
    | none => simp [hfl] at hf
    | some fd =>
      simp only [hfl, Option.map_some, Option.some.injEq, Prod.mk.injEq] at hf
      obtain ⟨rfl, rfl, rfl⟩ := hf
      have hfl' : l[f]? = some fd := by simpa using hfl
      have hokf : okT P fd.type = true := Array.all_eq_true_iff_forall_mem.1 hall fd (Array.mem_toList_iff.1 (List.mem_of_getElem? hfl))
      obtain ⟨i, z0, h1, h2, h3, h4, h5, h6, h7⟩ := okT_spec hokf
      simp only [Instr.fieldAt, Sem.run_bind, run_underlying hu, Result.andThen_ok, hfl', hv, Instr.sureAddr, Sem.run_pure, fieldPlace, run_size h1, if_neg h4, Addr_add]
  split at he
  · rename_i size zz fs id off ht e1
    rw [e1] at hx
    cases hf : fs[f]? with
    | none => simp [hf] at he
    | some q =>
      obtain ⟨a, b, c⟩ := q
      simp only [hf, pur, Option.some.injEq] at he; subst he
      have hv := v1_of hx (by simp) (by simp) (by simp) (by simp)
      obtain ⟨bb, hbb⟩ := hv.ptr_shape
      simp only [Sem.run_bind, key ht hf hbb, Result.andThen_ok, Sem.run_pure]
      refine Done.pure C (V2.v3 (V1.v2 ?_))
      simp only [V1] at hv ⊢
      cases hr : ρ id with
      | free => rw [hr] at hv; exact hv.elim
      | virt => rw [hr] at hv; exact hv.elim
      | gone => exact ⟨bb, rfl⟩
      | «at» b' s => rw [hr] at hv; simp only at hv; rw [hv] at hbb; cases hbb; rfl
  · rename_i size zz fs cs off ht e1
    rw [e1] at hx
    cases hf : fs[f]? with
    | none => simp [hf] at he
    | some q =>
      obtain ⟨a, b, c⟩ := q
      simp only [hf, pur, Option.some.injEq] at he; subst he
      obtain ⟨bb, o', hv, hS, hc⟩ := rptr_of hx
      simp only [Sem.run_bind, key ht hf hv, Result.andThen_ok, Sem.run_pure]
      refine Done.pure C (V2.v3 (V1.v2 (P1.v1 ?_)))
      simp only [P1]
      exact ⟨bb, o', by rw [Nat.add_assoc], hS, hc⟩
  · cases he

/-- A part of an aggregate. -/
theorem part_of {t : TypeId} {n : Nat} {ag : Bool} {cs : List AV} {vs : Array Value} {off : Nat} {r : AV} (hok : okT P t = true) (hn : n = sizeT P t) (ha : ag = aggT P t) (hc : CR (V1 ρ S w) cs vs) (hr : partA cs off n ag = some r) :
    ∃ v, (part t vs off).run P w = .ok v w ∧ V2 ρ S w r v := by
  obtain ⟨d, hu⟩ := okT_under hok
  obtain ⟨i, z0, h1, h2, h3, h4, h5, h6, h7⟩ := okT_spec hok
  unfold partA at hr
  cases ag with
  | false =>
    simp only [Bool.false_eq_true, if_false] at hr
    obtain ⟨v, hv, h1⟩ := hc.2 _ _ hr
    exact ⟨v, by simp only [part, Sem.run_bind, aggT_false hu ha.symm, Result.andThen_ok, Bool.false_eq_true, if_false, hv, Sem.run_pure], h1.v2⟩
  | true =>
    simp only [if_true] at hr
    split at hr
    · rename_i hl
      simp only [Option.some.injEq] at hr; subst hr
      refine ⟨.agg (vs.extract off (off + n)), by simp only [part, Sem.run_bind, aggT_true hu ha.symm, Result.andThen_ok, if_true, run_size h1, Sem.run_pure, hn, h6], ?_⟩
      simp only [V2]
      have hsz := hc.1
      refine ⟨_, rfl, by simp; omega, fun j c hj => ?_⟩
      rw [List.getElem?_take] at hj
      split at hj
      · rename_i hjn
        rw [List.getElem?_drop] at hj
        obtain ⟨v, hv, h1⟩ := hc.2 _ _ hj
        refine ⟨v, ?_, h1⟩
        rw [Array.getElem?_extract, if_pos (by omega)]; exact hv
      · cases hj
    · cases hr
theorem op_field (C : Ctx E P K ρ S h z w lk ev g fz) {t : TypeId} {x : Operand} {f : Nat} (ho : o.op = .field t x f) (he : eff E lk g fz slot o.op = some e) : OpGoal P K ρ S h z w ev o e := by
  rw [ho] at he; simp only [eff, C.eP] at he
  have hx := C.look x
  unfold OpGoal execOp; simp only [ho]
  split at he
  · rename_i size zz fs cs ht e1
    rw [e1] at hx
    cases hf : fs[f]? with
    | none => simp [hf] at he
    | some q =>
      obtain ⟨a, b, c⟩ := q
      simp only [hf] at he
      cases hp : partA cs a b c with
      | none => simp [hp] at he
      | some r =>
        simp only [hp, pur, Option.some.injEq] at he; subst he
        obtain ⟨vs, hv, hc⟩ := agg_of hx
        obtain ⟨l, i, z0, hu, _, _, _, _, _, _, _, rfl, hall⟩ := td_struct ht
        rw [List.getElem?_map] at hf
        cases hfl : l.toList[f]? with
        | none => simp [hfl] at hf
        | some fd =>
          simp only [hfl, Option.map_some, Option.some.injEq, Prod.mk.injEq] at hf
          obtain ⟨rfl, rfl, rfl⟩ := hf
          have hfl' : l[f]? = some fd := by simpa using hfl
          have hokf : okT P fd.type = true := Array.all_eq_true_iff_forall_mem.1 hall fd (Array.mem_toList_iff.1 (List.mem_of_getElem? hfl))
          obtain ⟨v, h1, h2⟩ := part_of hokf rfl rfl hc hp
          simp only [Instr.field, Sem.run_bind, run_underlying hu, Result.andThen_ok, hfl', hv, asAgg, Sem.run_pure, h1]
          exact Done.pure C h2.v3
  · cases he
theorem op_index (C : Ctx E P K ρ S h z w lk ev g fz) {t : TypeId} {x y : Operand} (ho : o.op = .index t x y) (he : eff E lk g fz slot o.op = some e) : OpGoal P K ρ S h z w ev o e := by
  rw [ho] at he; simp only [eff, C.eP] at he
  have hx := C.look x
  have hy := C.look y
  unfold OpGoal execOp; simp only [ho]
  split at he
  · rename_i b k i ht e1 e2
    rw [e1] at hx; rw [e2] at hy
    split at he
    · rename_i hi
      cases hb : b.data[i.toNat]? with
      | none => simp [hb] at he
      | some c =>
        simp only [hb, pur, Option.some.injEq] at he; subst he
        have hu := td_str ht
        have hb' : b[i.toNat]? = some c := by
          have hlt := (Array.getElem?_eq_some_iff.1 hb).1
          have hc := (Array.getElem?_eq_some_iff.1 hb).2
          rw [getElem?_pos b i.toNat hlt]
          exact congrArg some hc
        simp only [Instr.index, int_of hy, str_of hx, asIntOf, Sem.run_bind, Sem.run_pure, run_underlying hu, Result.andThen_ok, if_pos hi, hb']
        exact Done.pure C (by simp only [V3, V2, V1, P1])
    · cases he
  · rename_i n sz size zz ag cs k i ht e1 e2
    rw [e1] at hx; rw [e2] at hy
    split at he
    · rename_i hi
      cases hp : partA cs (i.toNat * sz) sz ag with
      | none => simp [hp] at he
      | some r =>
        simp only [hp, pur, Option.some.injEq] at he; subst he
        obtain ⟨vs, hv, hc⟩ := agg_of hx
        obtain ⟨el, ii, z0, ie, ze, hu, _, _, _, _, _, _, _, h1, _, h3, h4, h5, h6⟩ := td_array ht
        have hoke : okT P el = true := by
          unfold tdesc at ht; rw [hu] at ht; simp only at ht; split at ht
          · rename_i hq; simp only [Bool.and_eq_true] at hq; exact hq.2
          · cases ht
        obtain ⟨v, g1, g2⟩ := part_of hoke h6 h5 hc hp
        simp only [Instr.index, int_of hy, hv, asIntOf, Sem.run_bind, Sem.run_pure, run_underlying hu, Result.andThen_ok, if_pos hi, run_size h1, h3, g1]
        exact Done.pure C g2.v3
    · cases he
  · cases he
theorem op_indexAddr (C : Ctx E P K ρ S h z w lk ev g fz) {t : TypeId} {x y : Operand} (ho : o.op = .indexAddr t x y) (he : eff E lk g fz slot o.op = some e) : OpGoal P K ρ S h z w ev o e := by
  rw [ho] at he; simp only [eff, C.eP] at he
  have hx := C.look x
  have hy := C.look y
  unfold OpGoal execOp; simp only [ho]
  have slc : ∀ {el sz by' zz b o' cap n k i}, tdesc P t = .slice el sz by' zz → ev x = .slice (some ⟨b, o', none⟩) n cap → ev y = .int k i → 0 ≤ i ∧ i < (n : Int) →
      (Instr.indexAt t (ev x) (ev y)).run P w = .ok (.pointer (some ⟨b, o' + i.toNat * sz, none⟩)) w := by
    intro el sz by' zz b o' cap n k i ht hv hw hi
    obtain ⟨hu, ii, z0, h1, h2, h3, h4, h5, h6, h7, h8⟩ := td_slice ht
    simp only [Instr.indexAt, hv, hw, asIntOf, Sem.run_bind, Sem.run_pure, run_underlying hu, Result.andThen_ok, if_pos hi, run_size h1, h4, Addr_add]
  have arr : ∀ {n sz size zz ag b o' k i}, tdesc P t = .array n sz size zz ag → ev x = .pointer (some ⟨b, o', none⟩) → ev y = .int k i → 0 ≤ i ∧ i < (n : Int) →
      (Instr.indexAt t (ev x) (ev y)).run P w = .ok (.pointer (some ⟨b, o' + i.toNat * sz, none⟩)) w := by
    intro n sz size zz ag b o' k i ht hv hw hi
    obtain ⟨el, ii, z0, ie, ze, hu, _, _, _, _, _, _, _, h1, _, h3, h4, h5, h6⟩ := td_array ht
    simp only [Instr.indexAt, hv, hw, asIntOf, Instr.sureAddr, Sem.run_bind, Sem.run_pure, run_underlying hu, Result.andThen_ok, if_pos hi, run_size h1, h3, Addr_add]
  have ptr : ∀ {id off d b' o'} , V1 ρ S w (.ptr id off) (.pointer (some ⟨b', o', none⟩)) → V1 ρ S w (.ptr id (off + d)) (.pointer (some ⟨b', o' + d, none⟩)) := by
    intro id off d b' o' hv
    simp only [V1] at hv ⊢
    cases hr : ρ id with
    | free => rw [hr] at hv; exact hv.elim
    | virt => rw [hr] at hv; exact hv.elim
    | gone => rw [hr] at hv; obtain ⟨b, hb⟩ := hv; cases hb; exact ⟨_, rfl⟩
    | «at» b' s => rw [hr] at hv; simp only at hv; cases hv; rfl
  split at he
  · rename_i el sz by' zz id off n sz' k i ht e1 e2
    rw [e1] at hx; rw [e2] at hy
    split at he
    · rename_i hi
      obtain ⟨hi1, hi2, rfl⟩ := hi
      simp only [pur, Option.some.injEq] at he; subst he
      have hv := v1_of hx (by simp) (by simp) (by simp) (by simp)
      have hn0 : n ≠ 0 := by omega
      obtain ⟨a, cap, hs, hn, hz0⟩ := hv.own_shape
      obtain ⟨bb, rfl⟩ := hz0.resolve_left hn0
      simp only [Sem.run_bind, slc ht hs (int_of hy) ⟨hi1, hi2⟩, Result.andThen_ok, Sem.run_pure]
      refine Done.pure C (V2.v3 (V1.v2 ?_))
      simp only [V1] at hv ⊢
      cases hr : ρ id with
      | free => rw [hr] at hv; exact hv.elim
      | virt => rw [hr] at hv; exact (hn0 hv.1).elim
      | gone => exact ⟨bb, rfl⟩
      | «at» b' s =>
        rw [hr] at hv
        obtain ⟨o', cap', h1, h2, h3, h4⟩ := hv
        rw [hs] at h1; cases h1; rfl
    · cases he
  · rename_i el sz by' zz n cs k i ht e1 e2
    rw [e1] at hx; rw [e2] at hy
    split at he
    · rename_i hi
      simp only [pur, Option.some.injEq] at he; subst he
      obtain ⟨a, cap, hs, hn, hq⟩ := row_of hx
      obtain ⟨b, o', rfl, hS, hc⟩ := hq.resolve_left (by omega)
      simp only [Sem.run_bind, slc ht hs (int_of hy) hi, Result.andThen_ok, Sem.run_pure]
      refine Done.pure C (V2.v3 (V1.v2 (P1.v1 ?_)))
      simp only [P1]
      exact ⟨b, o', rfl, hS, hc⟩
    · cases he
  · rename_i n sz size zz ag id off k i ht e1 e2
    rw [e1] at hx; rw [e2] at hy
    split at he
    · rename_i hi
      simp only [pur, Option.some.injEq] at he; subst he
      have hv := v1_of hx (by simp) (by simp) (by simp) (by simp)
      obtain ⟨bb, hbb⟩ := hv.ptr_shape
      simp only [Sem.run_bind, arr ht hbb (int_of hy) hi, Result.andThen_ok, Sem.run_pure]
      rw [hbb] at hv
      exact Done.pure C (V2.v3 (V1.v2 (ptr hv)))
    · cases he
  · rename_i n sz size zz ag cs off k i ht e1 e2
    rw [e1] at hx; rw [e2] at hy
    split at he
    · rename_i hi
      simp only [pur, Option.some.injEq] at he; subst he
      obtain ⟨b, o', hv, hS, hc⟩ := rptr_of hx
      simp only [Sem.run_bind, arr ht hv (int_of hy) hi, Result.andThen_ok, Sem.run_pure]
      refine Done.pure C (V2.v3 (V1.v2 (P1.v1 ?_)))
      simp only [P1]
      exact ⟨b, o', by rw [Nat.add_assoc], hS, hc⟩
    · cases he
  · cases he
end
/- Operations that make or write memory. -/
section
variable {K S : Nat → Prop} {w : World} {ρ : Nat → Loc} {P : Program} {E : Env} {h : List Blk} {z : List Bool} {lk : Operand → AV} {ev : Operand → Value} {g : Nat → Option Blk} {fz : Nat → Bool} {slot : Nat} {o : Oper} {e : Eff}

/-! Lists. -/
theorem splice_get : ∀ (vs cs : List AV) (o j : Nat), o + vs.length ≤ cs.length → (splice cs o vs)[j]? = if o ≤ j ∧ j < o + vs.length then vs[j - o]? else cs[j]?
  | [], cs, o, j, _ => by simp only [splice, List.length_nil]; rw [if_neg (by omega)]
  | v :: r, cs, o, j, hl => by
    simp only [List.length_cons] at hl ⊢
    rw [splice, splice_get r (cs.set o v) (o + 1) j (by simp; omega)]
    by_cases h1 : j = o
    · subst h1
      rw [if_neg (by omega), if_pos (by omega), List.getElem?_set_self (by omega)]; simp
    · by_cases h2 : o ≤ j ∧ j < o + (r.length + 1)
      · rw [if_pos (by omega), if_pos h2, show j - o = (j - (o + 1)) + 1 by omega]; simp
      · rw [if_neg (by omega), if_neg h2, List.getElem?_set_ne (by omega)]
theorem splice_length : ∀ (vs cs : List AV) (o : Nat), (splice cs o vs).length = cs.length
  | [], _, _ => rfl
  | v :: r, cs, o => by rw [splice, splice_length r]; simp
/-- Values laid into an array from a place on. -/
def lay (cs : Array Value) (o : Nat) : List Value → Array Value
  | [] => cs
  | v :: r => lay (cs.setIfInBounds o v) (o + 1) r
theorem lay_size : ∀ (vs : List Value) (cs : Array Value) (o : Nat), (lay cs o vs).size = cs.size
  | [], _, _ => rfl
  | v :: r, cs, o => by rw [lay, lay_size r]; simp
theorem lay_get : ∀ (vs : List Value) (cs : Array Value) (o j : Nat), o + vs.length ≤ cs.size → (lay cs o vs)[j]? = if o ≤ j ∧ j < o + vs.length then vs[j - o]? else cs[j]?
  | [], cs, o, j, _ => by simp only [lay, List.length_nil]; rw [if_neg (by omega)]
  | v :: r, cs, o, j, hl => by
    simp only [List.length_cons] at hl ⊢
    rw [lay, lay_get r (cs.setIfInBounds o v) (o + 1) j (by simp; omega)]
    by_cases h1 : j = o
    · subst h1
      rw [if_neg (by omega), if_pos (by omega), Array.getElem?_setIfInBounds_self_of_lt (by omega)]; simp
    · by_cases h2 : o ≤ j ∧ j < o + (r.length + 1)
      · rw [if_pos (by omega), if_pos h2, show j - o = (j - (o + 1)) + 1 by omega]; simp
      · rw [if_neg (by omega), if_neg h2, Array.getElem?_setIfInBounds_ne (by omega)]
theorem foldl_lay : ∀ (l : List Value) (k off : Nat) (cs : Array Value), (l.zipIdx k).foldl (fun cs (c, j) => cs.setIfInBounds (off + j) c) cs = lay cs (off + k) l
  | [], _, _, _ => rfl
  | v :: r, k, off, cs => by
    rw [List.zipIdx_cons, List.foldl_cons, foldl_lay r (k + 1) off]
    rw [lay, show off + (k + 1) = off + k + 1 by omega]
theorem foldl_lay' (vs : Array Value) (off : Nat) (cs : Array Value) : vs.zipIdx.foldl (fun cs (c, j) => cs.setIfInBounds (off + j) c) cs = lay cs off vs.toList := by
  rw [← Array.foldl_toList, Array.toList_zipIdx, foldl_lay, Nat.add_zero]
/-- Laid on both sides. -/
theorem CR.lay {R : AV → Value → Prop} {cs vs : List AV} {ccs : Array Value} {us : List Value} {o : Nat} (hc : ∀ (j : Nat) (c : AV), cs[j]? = some c → ∃ v, ccs[j]? = some v ∧ R c v)
    (hv : vs.length = us.length ∧ ∀ (j : Nat) (c : AV), vs[j]? = some c → ∃ v, us[j]? = some v ∧ R c v) (hl : o + vs.length ≤ cs.length) (hs : o + vs.length ≤ ccs.size) :
    ∀ (j : Nat) (c : AV), (splice cs o vs)[j]? = some c → ∃ v, (lay ccs o us)[j]? = some v ∧ R c v := by
  intro j c hj
  rw [splice_get _ _ _ _ hl] at hj
  rw [lay_get _ _ _ _ (by rw [← hv.1]; exact hs), ← hv.1]
  split
  · rename_i h; rw [if_pos h] at hj; exact hv.2 _ _ hj
  · rename_i h; rw [if_neg h] at hj; exact hc _ _ hj

theorem size_le {R : AV → Value → Prop} {cs : List AV} {ccs : Array Value} (hc : ∀ (j : Nat) (c : AV), cs[j]? = some c → ∃ v, ccs[j]? = some v ∧ R c v) : cs.length ≤ ccs.size := by
  cases hcs : cs with
  | nil => simp
  | cons c r =>
    have hl : cs.length - 1 < cs.length := by rw [hcs]; simp
    obtain ⟨v, hv, _⟩ := hc _ _ (List.getElem?_eq_getElem hl)
    have := (Array.getElem?_eq_some_iff.1 hv).1
    rw [← hcs]; omega

/-! A new block. -/
theorem Done.new (C : Ctx E P K ρ S h z w lk ev g fz) (hs : h[slot]? = some .dead) {ccs : Array Value} {ty : TypeId} {x : Blk} {r : AV} {v : Value} {f : List Nat} (w' : World)
    (hw : w' = w.alloc (.cells ccs ty))
    (hx : ∀ ρ', (∀ id, ρ id = .free ∨ ρ' id = ρ id ∨ ρ' id = .gone) → BR (Sf S ρ f) w' ρ' (.at w.heap.size ccs.size) (some x))
    (hv : ∀ ρ', ρ' slot = .at w.heap.size ccs.size → V3 ρ' (Sf S ρ f) w' r v) : Done K ρ S h z w ⟨r, [(slot, x)], f⟩ v w' := by
  subst hw
  obtain ⟨H1, X1⟩ := C.mem.freeze f
  have hfree : ρ slot = .free := by have := C.mem.blk slot; rw [hs] at this; exact this
  have hold : ∀ k, k < w.heap.size → (w.alloc (.cells ccs ty)).heap[k]? = w.heap[k]? := fun k hk => heap_alloc_old w _ k hk
  have hnew : (w.alloc (.cells ccs ty)).heap[w.heap.size]? = some (.cells ccs ty (0, 0)) := heap_alloc_new w _
  have hloc : ∀ id, ρ id = .free ∨ upd ρ slot (.at w.heap.size ccs.size) id = ρ id ∨ upd ρ slot (.at w.heap.size ccs.size) id = .gone := by
    intro id
    by_cases q : id = slot
    · subst q; exact .inl hfree
    · exact .inr (.inl (upd_ne _ _ q))
  obtain ⟨H2, X2⟩ := H1.new hs (Nat.le_refl _) (by simp) hold hnew rfl rfl rfl (hx _ hloc)
  exact ⟨_, _, X1.trans X2, H2, hv _ (upd_same _ _ _)⟩

theorem op_alloc (C : Ctx E P K ρ S h z w lk ev g fz) (hs : h[slot]? = some .dead) {t : TypeId} (ho : o.op = .alloc t) (he : eff E lk g fz slot o.op = some e) : OpGoal P K ρ S h z w ev o e := by
  rw [ho] at he; simp only [eff, C.eP] at he
  unfold OpGoal execOp; simp only [ho]
  have ptr : ∀ (ρ' : Nat → Loc) (S' : Nat → Prop) (w' : World) (b n : Nat), ρ' slot = .at b n → V3 ρ' S' w' (.ptr slot 0) (.pointer (some ⟨b, 0, none⟩)) := by
    intro ρ' S' w' b n hr; simp only [V3, V2, V1, hr]
  split at he
  · rename_i n sz size zz ag ht
    simp only [Option.some.injEq] at he; subst he
    obtain ⟨el, i, z0, ie, ze, hu, h1, h2, h3, h4, h5, h6, rfl, _⟩ := td_array ht
    simp only [Instr.alloc, Sem.run_bind, run_zero h1 h2, Result.andThen_ok, newVar, newRow, run_newObj_alloc, Sem.run_pure]
    refine Done.new C hs (ccs := z0.cells) (ty := t) _ rfl (fun ρ' _ => .inr ⟨w.heap.size, z0.cells, t, rfl, heap_alloc_new w _, ?_⟩) (fun ρ' hr => ptr _ _ _ _ _ hr)
    exact (CR_ofCell h6).2
  · rename_i size zz fs ht
    obtain ⟨l, i, z0, hu, h1, h2, h3, h4, h5, h6, rfl, _⟩ := td_struct ht
    split at he
    · simp only [Option.some.injEq] at he; subst he
      simp only [Instr.alloc, Sem.run_bind, run_zero h1 h2, Result.andThen_ok, newVar, newRow, run_newObj_alloc, Sem.run_pure]
      refine Done.new C hs (ccs := z0.cells) (ty := t) _ rfl (fun ρ' _ => .inr ⟨w.heap.size, z0.cells, t, rfl, heap_alloc_new w _, ?_⟩) (fun ρ' hr => ptr _ _ _ _ _ hr)
      exact (CR_ofCell h6).2
    · simp only [Option.some.injEq] at he; subst he
      simp only [Instr.alloc, Sem.run_bind, run_zero h1 h2, Result.andThen_ok, newVar, newRow, run_newObj_alloc, Sem.run_pure]
      refine Done.new C hs (ccs := z0.cells) (ty := t) _ rfl (fun ρ' _ => ⟨w.heap.size, z0.cells, t, rfl, heap_alloc_new w _, ?_⟩) (fun ρ' hr => ptr _ _ _ _ _ hr)
      exact fun j c hj => let ⟨v, a, b⟩ := (CR_ofCell h6).2 j c hj; ⟨v, a, b.v1⟩
  · cases he
  · split at he
    · rename_i hok
      simp only [Option.some.injEq] at he; subst he
      obtain ⟨i, z0, h1, h2, h3, h4, h5, h6, h7⟩ := okT_spec hok
      simp only [Instr.alloc, Sem.run_bind, run_zero h1 h2, Result.andThen_ok, newVar, newRow, run_newObj_alloc, Sem.run_pure]
      refine Done.new C hs (ccs := z0.cells) (ty := t) _ rfl (fun ρ' _ => ⟨w.heap.size, z0.cells, t, rfl, heap_alloc_new w _, ?_⟩) (fun ρ' hr => ptr _ _ _ _ _ hr)
      rw [h7]
      exact fun j c hj => let ⟨v, a, b⟩ := (CR_ofCell h5).2 j c hj; ⟨v, a, b.v1⟩
    · cases he
theorem op_box (C : Ctx E P K ρ S h z w lk ev g fz) (hs : h[slot]? = some .dead) {t : TypeId} {x : Operand} (ho : o.op = .box t x) (he : eff E lk g fz slot o.op = some e) : OpGoal P K ρ S h z w ev o e := by
  rw [ho] at he; simp only [eff, C.eP] at he
  have hx := C.look x
  unfold OpGoal execOp; simp only [ho, Instr.box, Sem.run_bind, Result.andThen_ok, newVar, newRow, run_newObj_alloc, Sem.run_pure]
  have ptr : ∀ (ρ' : Nat → Loc) (S' : Nat → Prop) (w' : World) (b n : Nat), ρ' slot = .at b n → V3 ρ' S' w' (.ptr slot 0) (.pointer (some ⟨b, 0, none⟩)) := by
    intro ρ' S' w' b n hr; simp only [V3, V2, V1, hr]
  split at he
  · cases hr : reify g (lk x) with
    | none => simp [hr] at he
    | some p =>
      obtain ⟨r, f⟩ := p
      simp only [hr] at he
      split at he
      · rename_i r' cs f' heq
        simp only [Option.some.injEq, Prod.mk.injEq] at heq
        obtain ⟨rfl, rfl⟩ := heq
        simp only [Option.some.injEq] at he; subst he
        have h2 := reify_sound C hr hx
        simp only [V2] at h2
        obtain ⟨vs, hv, hc⟩ := h2
        rw [hv]
        refine Done.new C hs (ccs := vs) (ty := t) _ rfl (fun ρ' _ => .inr ⟨w.heap.size, vs, t, rfl, heap_alloc_new w _, fun j c hj => ?_⟩) (fun ρ' hr => ptr _ _ _ _ _ hr)
        obtain ⟨v, a, b⟩ := hc.2 j c hj
        refine ⟨v, a, P1.mono (fun _ h => h) (fun k hk => heap_alloc_old w _ k ?_) _ _ (V1.pure b)⟩
        rcases hk with hk | ⟨i, _, n, hn⟩
        · exact C.mem.sb k hk
        · exact (C.mem.lt hn).1
      · cases he
  · split at he
    · cases hr : reify g (lk x) with
      | none => simp [hr] at he
      | some p =>
        obtain ⟨r, f⟩ := p
        simp only [hr] at he
        split at he
        · rename_i r' cs f' heq
          simp only [Option.some.injEq, Prod.mk.injEq] at heq
          obtain ⟨rfl, rfl⟩ := heq
          simp only [Option.some.injEq] at he; subst he
          have h2 := reify_sound C hr hx
          simp only [V2] at h2
          obtain ⟨vs, hv, hc⟩ := h2
          rw [hv]
          refine Done.new C hs (ccs := vs) (ty := t) _ rfl (fun ρ' _ => .inr ⟨w.heap.size, vs, t, rfl, heap_alloc_new w _, fun j c hj => ?_⟩) (fun ρ' hr => ptr _ _ _ _ _ hr)
          obtain ⟨v, a, b⟩ := hc.2 j c hj
          refine ⟨v, a, P1.mono (fun _ h => h) (fun k hk => heap_alloc_old w _ k ?_) _ _ (V1.pure b)⟩
          rcases hk with hk | ⟨i, _, n, hn⟩
          · exact C.mem.sb k hk
          · exact (C.mem.lt hn).1
        · cases he
    · cases hc : (lk x).cells with
      | none => simp [hc] at he
      | some cs =>
        simp only [hc, Option.some.injEq] at he; subst he
        have hcs := cells_of hx hc
        refine Done.new C hs (ccs := (ev x).cells) (ty := t) _ rfl (fun ρ' hρ => ⟨w.heap.size, (ev x).cells, t, rfl, heap_alloc_new w _, fun j c hj => ?_⟩) (fun ρ' hr => ptr _ _ _ _ _ hr)
        obtain ⟨v, a, b⟩ := hcs.2 j c hj
        exact ⟨v, a, b.mono (fun _ h => .inl h) (fun k hk => heap_alloc_old w _ k (C.mem.sb k hk)) hρ⟩
  · cases hc : (lk x).cells with
    | none => simp [hc] at he
    | some cs =>
      simp only [hc, Option.some.injEq] at he; subst he
      have hcs := cells_of hx hc
      refine Done.new C hs (ccs := (ev x).cells) (ty := t) _ rfl (fun ρ' hρ => ⟨w.heap.size, (ev x).cells, t, rfl, heap_alloc_new w _, fun j c hj => ?_⟩) (fun ρ' hr => ptr _ _ _ _ _ hr)
      obtain ⟨v, a, b⟩ := hcs.2 j c hj
      exact ⟨v, a, b.mono (fun _ h => .inl h) (fun k hk => heap_alloc_old w _ k (C.mem.sb k hk)) hρ⟩

theorem fill_of {R : AV → Value → Prop} {pl : Nat → Option (Nat × Nat)} : ∀ {l : List (Nat × List AV)} {cells cs : List AV} {ccells : Array Value} {l' : List (Nat × Value)}, fillA pl cells l = some cs → cells.length = ccells.size →
    (∀ (j : Nat) (c : AV), cells[j]? = some c → ∃ v, ccells[j]? = some v ∧ R c v) → (l.length = l'.length ∧ ∀ (j : Nat) p, l[j]? = some p → ∃ v, l'[j]? = some (p.1, v) ∧ CR R p.2 v.cells) →
    ∃ ccs, Instr.fill pl ccells l' = some ccs ∧ CR R cs ccs
  | [], cells, cs, ccells, l', hf, hl, hc, hp => by
    simp only [fillA, Option.some.injEq] at hf; subst hf
    have : l' = [] := List.eq_nil_of_length_eq_zero (by simpa using hp.1.symm)
    subst this
    exact ⟨ccells, rfl, hl, hc⟩
  | (i, vs) :: r, cells, cs, ccells, l', hf, hl, hc, hp => by
    cases l' with
    | nil => simp at hp
    | cons q r' =>
      obtain ⟨v, hv, hcv⟩ := hp.2 0 _ rfl
      simp at hv; subst hv
      simp only [fillA] at hf
      cases hq : pl i with
      | none => simp [hq] at hf
      | some y =>
        obtain ⟨off, size⟩ := y
        simp only [hq] at hf
        split at hf
        · rename_i hb
          have hsz : v.cells.size = size := by rw [← hcv.1]; exact hb.1
          obtain ⟨ccs, h1, h2⟩ := fill_of (l := r) (l' := r') (ccells := lay ccells off v.cells.toList) hf (by rw [splice_length, lay_size]; exact hl)
            (CR.lay hc ⟨by simpa using hcv.1, by simpa using hcv.2⟩ (by omega) (by rw [← hl]; omega)) ⟨by simpa using hp.1, fun j p hj => by simpa using hp.2 (j + 1) p (by simpa using hj)⟩
          refine ⟨ccs, ?_, h2⟩
          simp only [Instr.fill, hq]
          rw [if_neg (by rw [hsz, ← hl]; simp; omega), foldl_lay']
          exact h1
        · cases hf
theorem fillA_length {pl : Nat → Option (Nat × Nat)} : ∀ {l : List (Nat × List AV)} {cells cs : List AV}, fillA pl cells l = some cs → cs.length = cells.length
  | [], cells, cs, h => by simp only [fillA, Option.some.injEq] at h; rw [h]
  | (i, vs) :: r, cells, cs, h => by
    simp only [fillA] at h
    cases hq : pl i with
    | none => simp [hq] at h
    | some y =>
      obtain ⟨off, size⟩ := y
      simp only [hq] at h
      split at h
      · rw [fillA_length h, splice_length]
      · cases h
theorem cellsL_of (C : Ctx E P K ρ S h z w lk ev g fz) : ∀ {ps : List (Nat × Operand)} {l : List (Nat × List AV)}, cellsL lk ps = some l → l.length = (ps.map fun p => (p.1, ev p.2)).length ∧ ∀ (j : Nat) p, l[j]? = some p → ∃ v, (ps.map fun p => (p.1, ev p.2))[j]? = some (p.1, v) ∧ CR (V1 ρ S w) p.2 v.cells
  | [], l, hl => by simp only [cellsL, Option.some.injEq] at hl; subst hl; exact ⟨rfl, fun j p hj => by simp at hj⟩
  | (i, x) :: r, l, hl => by
    simp only [cellsL] at hl
    cases h1 : (lk x).cells with
    | none => simp [h1] at hl
    | some cs =>
      cases h2 : cellsL lk r with
      | none => simp [h1, h2] at hl
      | some l2 =>
        simp only [h1, h2, Option.some.injEq] at hl; subst hl
        have ih := cellsL_of C h2
        refine ⟨by simpa using ih.1, fun j p hj => ?_⟩
        cases j with
        | zero => simp at hj; subst hj; exact ⟨ev x, rfl, cells_of (C.look x) h1⟩
        | succ j => simpa using ih.2 j p (by simpa using hj)
theorem op_build (C : Ctx E P K ρ S h z w lk ev g fz) {t : TypeId} {ps : Array (Nat × Operand)} (ho : o.op = .build t ps) (he : eff E lk g fz slot o.op = some e) : OpGoal P K ρ S h z w ev o e := by
  rw [ho] at he; simp only [eff, C.eP] at he
  unfold OpGoal execOp; simp only [ho]
  have hmap : (ps.map fun (i, x) => (i, ev x)).toList = ps.toList.map fun p => (p.1, ev p.2) := by simp
  split at he
  · rename_i size zz fs l ht hl
    cases hf : fillA (fun i => (fs[i]?).map fun f => (f.1, f.2.1)) zz l with
    | none => simp [hf] at he
    | some cs =>
      simp only [hf, pur, Option.some.injEq] at he; subst he
      obtain ⟨fl, i, z0, hu, h1, h2, h3, h4, h5, h6, rfl, rfl, hall⟩ := td_struct ht
      have hz := CR_ofCell (S := S) (w := w) h6
      obtain ⟨ccs, g1, g2⟩ := fill_of (R := V1 ρ S w) (ccells := z0.cells) hf hz.1 (fun j c hj => let ⟨v, a, b⟩ := hz.2 j c hj; ⟨v, a, b.v1⟩) (cellsL_of C hl)
      have hp : ∀ (l : List Field), (∀ f ∈ l, okT P f.type = true) → l.mapM (fun f => (P.info? f.type).map fun i => (f.offset, i.size)) = some (l.map fun f => (f.offset, sizeT P f.type)) := by
        intro l
        induction l with
        | nil => intro _; rfl
        | cons f r ih =>
          intro hq
          obtain ⟨i, z0, k1, k2, k3, k4, k5, k6, k7⟩ := okT_spec (hq f (by simp))
          simp [List.mapM_cons, k1, ih (fun f hf => hq f (by simp [hf])), k6]
      have hb : P.built t (ps.map fun (i, x) => (i, ev x)).toList = some ccs := by
        simp only [Program.built, h1, hu, h2, hp fl.toList (fun f hf => Array.all_eq_true_iff_forall_mem.1 hall f (Array.mem_toList_iff.1 hf)), hmap]
        rw [← g1]
        congr 1
        funext i; simp; rfl
      simp only [Sem.run_bind, run_build w t _ ccs hb, Result.andThen_ok, Sem.run_pure]
      exact Done.pure C (by simp only [V3, V2]; exact ⟨ccs, rfl, g2⟩)
  · rename_i n sz size zz ag l ht hl
    cases hf : fillA (fun i => some (i * sz, sz)) zz l with
    | none => simp [hf] at he
    | some cs =>
      simp only [hf, pur, Option.some.injEq] at he; subst he
      obtain ⟨el, i, z0, ie, ze, hu, h1, h2, h3, h4, h5, h6, rfl, k1, k2, k3, _⟩ := td_array ht
      have hz := CR_ofCell (S := S) (w := w) h6
      obtain ⟨ccs, g1, g2⟩ := fill_of (R := V1 ρ S w) (ccells := z0.cells) hf hz.1 (fun j c hj => let ⟨v, a, b⟩ := hz.2 j c hj; ⟨v, a, b.v1⟩) (cellsL_of C hl)
      simp only [Instr.build, Sem.run_bind, run_zero h1 h2, Result.andThen_ok, run_underlying hu, run_size k1, k3, hmap, g1, Sem.run_pure]
      exact Done.pure C (by simp only [V3, V2]; exact ⟨ccs, rfl, g2⟩)
  · cases he
theorem cellsR_of (C : Ctx E P K ρ S h z w lk ev g fz) : ∀ {ps : List (Nat × Operand)} {l : List (Nat × List AV)} {f : List Nat}, cellsR g lk ps = some (l, f) → l.length = (ps.map fun p => (p.1, ev p.2)).length ∧ ∀ (j : Nat) p, l[j]? = some p → ∃ v, (ps.map fun p => (p.1, ev p.2))[j]? = some (p.1, v) ∧ CR (P1 (Sf S ρ f) w) p.2 v.cells
  | [], l, f, hl => by simp only [cellsR, Option.some.injEq, Prod.mk.injEq] at hl; obtain ⟨rfl, rfl⟩ := hl; exact ⟨rfl, fun j p hj => by simp at hj⟩
  | (i, x) :: r, l, f, hl => by
    simp only [cellsR] at hl
    cases h1 : reify g (lk x) with
    | none => simp [h1] at hl
    | some q =>
      obtain ⟨v, a⟩ := q
      cases h2 : cellsR g lk r with
      | none => simp [h1, h2] at hl
      | some q =>
        obtain ⟨l2, b⟩ := q
        simp only [h1, h2] at hl
        cases h3 : v.cells with
        | none => simp [h3] at hl
        | some cs =>
          simp only [h3, Option.some.injEq, Prod.mk.injEq] at hl
          obtain ⟨rfl, rfl⟩ := hl
          have ih := cellsR_of C h2
          refine ⟨by simpa using ih.1, fun j p hj => ?_⟩
          cases j with
          | zero =>
            simp at hj; subst hj
            refine ⟨ev x, rfl, (cells_of (reify_sound C h1 (C.look x)).v3 h3).mono fun c v hc => ?_⟩
            exact hc.pure.sf (by simp; intro i hi; exact .inl hi)
          | succ j =>
            obtain ⟨u, hu, hc⟩ := ih.2 j p (by simpa using hj)
            exact ⟨u, by simpa using hu, hc.mono fun c v hc => hc.sf (by simp; intro i hi; exact .inr hi)⟩

/-- Noughts, again and again. -/
theorem flat_get {α : Type} (z : List α) (hz : z ≠ []) : ∀ (n j : Nat), (List.replicate n z).flatten[j]? = if j < n * z.length then z[j % z.length]? else none
  | 0, j => by simp
  | n + 1, j => by
    have hl : 0 < z.length := List.length_pos_iff.2 hz
    rw [List.replicate_succ, List.flatten_cons, List.getElem?_append, flat_get z hz n]
    by_cases h : j < z.length
    · rw [if_pos h, if_pos (by rw [Nat.add_mul, Nat.one_mul]; omega), Nat.mod_eq_of_lt h]
    · rw [if_neg h]
      have hm : (j - z.length) % z.length = j % z.length := by rw [Nat.mod_eq_sub_mod (by omega : j ≥ z.length)]
      have hn : (n + 1) * z.length = n * z.length + z.length := by rw [Nat.add_mul, Nat.one_mul]
      rw [hm, hn]
      by_cases h2 : j - z.length < n * z.length
      · rw [if_pos h2, if_pos (by omega)]
      · rw [if_neg h2, if_neg (by omega)]
theorem made_of {z0 : Array Value} {l c : Nat} (hz : 0 < z0.size) (h1 : z0.all Value.oneCell' = true) (hl : l ≤ c) :
    ∀ (j : Nat) (d : AV), (List.replicate l (z0.toList.map ofCell)).flatten[j]? = some d → ∃ v, ((Array.range (c * z0.size)).map (z0[· % z0.size]!))[j]? = some v ∧ P1 S w d v := by
  intro j d hj
  rw [flat_get _ (by intro e; rw [List.map_eq_nil_iff] at e; have := congrArg List.length e; simp only [Array.length_toList, List.length_nil] at this; omega)] at hj
  simp only [List.length_map, Array.length_toList] at hj
  split at hj
  · rename_i hlt
    have hm : j % z0.size < z0.size := Nat.mod_lt _ hz
    have hjc : j < c * z0.size := Nat.lt_of_lt_of_le hlt (Nat.mul_le_mul_right _ hl)
    obtain ⟨v, hv, hp⟩ := (CR_ofCell (S := S) (w := w) h1).2 _ _ hj
    refine ⟨v, ?_, hp⟩
    rw [Array.getElem?_map, Array.getElem?_range]
    simp only [hjc, if_true, Option.map_some]
    rw [getElem!_pos z0 _ hm]
    rw [Array.getElem?_eq_getElem hm] at hv
    exact hv
  · cases hj

theorem op_buildSlice (C : Ctx E P K ρ S h z w lk ev g fz) (hs : h[slot]? = some .dead) {t : TypeId} {n : Nat} {ps : Array (Nat × Operand)} (ho : o.op = .buildSlice t n ps) (he : eff E lk g fz slot o.op = some e) : OpGoal P K ρ S h z w ev o e := by
  rw [ho] at he; simp only [eff, C.eP] at he
  unfold OpGoal execOp; simp only [ho]
  have hmap : (ps.map fun (i, x) => (i, ev x)).toList = ps.toList.map fun p => (p.1, ev p.2) := by simp
  split at he
  · rename_i el sz bytes zz l f ht hl
    split at he
    · rename_i hn
      cases hf : fillA (fun i => some (i * sz, sz)) (List.replicate n zz).flatten l with
      | none => simp [hf] at he
      | some cs =>
        simp only [hf, Option.some.injEq] at he; subst he
        obtain ⟨hu, i, z0, h1, h2, h3, h4, h5, h6, h7, rfl⟩ := td_slice ht
        have hzs : 0 < z0.cells.size := by omega
        have hlen : (List.replicate n (z0.cells.toList.map ofCell)).flatten.length = n * sz := by simp [h3]
        obtain ⟨ccs, g1, g2⟩ := fill_of (R := P1 (Sf S ρ f) w) (ccells := (Array.range (n * z0.cells.size)).map (z0.cells[· % z0.cells.size]!)) hf (by simp [h3])
          (made_of hzs h7 (Nat.le_refl _)) (cellsR_of C hl)
        have hr : (Instr.buildSlice t n (ps.map fun (i, x) => (i, ev x))).run P w = .ok (.slice (some ⟨w.heap.size, 0, none⟩) n n) (w.alloc (.cells ccs el)) := by
          by_cases h0 : n * sz = 0
          · have : n = 0 := by rcases Nat.mul_eq_zero.1 h0 with q | q; exact q; exact (h5 q).elim
            subst this
            have g1' : Instr.fill (fun i => some (i * sz, sz)) #[] (ps.toList.map fun p => (p.1, ev p.2)) = some ccs := by rw [← g1, Nat.zero_mul, show Array.range 0 = #[] from rfl, Array.map_empty]
            simp only [Instr.buildSlice, Sem.run_bind, run_underlying hu, Result.andThen_ok, run_size h1, h4, Nat.zero_mul, if_true, Sem.run_pure, hmap, Array.range_zero', Array.map_empty, g1', newRow, run_newObj_alloc]
            rfl
          · simp only [h3] at g1
            simp only [Instr.buildSlice, Sem.run_bind, run_underlying hu, Result.andThen_ok, run_size h1, h4, if_neg h0, if_neg (by omega : ¬ n * sz > 2 ^ 24), run_zero h1 h2, Sem.run_pure, hmap, h3, g1, newRow, run_newObj_alloc]
        simp only [Sem.run_bind, hr, Result.andThen_ok, Sem.run_pure]
        have hcs : ccs.size = n * sz := by rw [← g2.1]; exact (fillA_length hf).trans hlen
        refine Done.new C hs (ccs := ccs) (ty := el) _ rfl (fun ρ' _ => .inr ⟨w.heap.size, ccs, el, rfl, heap_alloc_new w _, fun j c hj => ?_⟩) (fun ρ' hr => ?_)
        · obtain ⟨v, a, b⟩ := g2.2 j c hj
          refine ⟨v, a, P1.mono (fun _ h => h) (fun k hk => heap_alloc_old w _ k ?_) _ _ b⟩
          rcases hk with hk | ⟨i, _, n, hn⟩
          · exact C.mem.sb k hk
          · exact (C.mem.lt hn).1
        · simp only [V3, V2, V1, hr]
          exact ⟨0, n, rfl, Nat.le_refl _, by omega, .inl rfl⟩
    · cases he
  · cases he
end
end Go.Proofs.Ytpbaloceljfaoaa.Ab
