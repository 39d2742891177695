/- The abstract evaluator: the model's own code, run on values without a world. No condition; definitions alone. -/
import GoSem.Step
import Derived.Orders
set_option linter.unusedSectionVars false
set_option linter.unusedVariables false
set_option linter.unusedSimpArgs false
namespace Go.Ab

/-- Abstract values. An absent one (none) stands for a slot of which nothing is known. -/
inductive DV where
  | bool (b : Bool)
  | int (k : IntKind) (n : Int)
  | str (s : ByteArray)
  | nilp
  | ptr (id off : Nat)
  | rptr (id ver i esz off : Nat)
  | pub (cs : List DV)
  | nils
  | sl (es : List (List DV))
  | rs (id ver : Nat)
  | agg (cs : List DV)
  | tup (vs : List DV)
  | fn (f : Fn) (first caps : List DV)
  | nilfn
  | map (id : Nat)
  | nilmap
  | iface (t : TypeId) (v : DV)
  | nilif
  | iter (id : Nat)
  | yld (id : Nat)
  deriving Inhabited

/-- Binary tries. -/
inductive Tr (α : Type) where
  | leaf
  | node (l : Tr α) (v : Option α) (r : Tr α)
  deriving Inhabited

namespace Tr
variable {α : Type}
def get : Tr α → Nat → Option α
  | .leaf, _ => none
  | .node l v r, k => bif Nat.beq k 0 then v else bif Nat.beq (k % 2) 1 then l.get (k / 2) else r.get (k / 2 - 1)

def setAux : Nat → Tr α → Nat → Option α → Tr α
  | 0, t, _, _ => t
  | n + 1, .leaf, k, v => bif Nat.beq k 0 then .node .leaf v .leaf else bif Nat.beq (k % 2) 1 then .node (setAux n .leaf (k / 2) v) none .leaf else .node .leaf none (setAux n .leaf (k / 2 - 1) v)
  | n + 1, .node l x r, k, v => bif Nat.beq k 0 then .node l v r else bif Nat.beq (k % 2) 1 then .node (setAux n l (k / 2) v) x r else .node l x (setAux n r (k / 2 - 1) v)

def set (t : Tr α) (k : Nat) (v : Option α) : Tr α := setAux (k + 1) t k v

/-- A node; none where nothing lies below. -/
def mkn (l : Tr α) (v : Option α) (r : Tr α) : Tr α := match l, v, r with
  | .leaf, none, .leaf => .leaf
  | l, v, r => .node l v r

/-- Each entry, its key a * i + b: kept as it is told, dropped, or all fails. -/
def tm (f : Nat → α → Option (Option α)) : Tr α → (a b : Nat) → Option (Tr α)
  | .leaf, _, _ => some .leaf
  | .node l v r, a, b => (tm f l (2 * a) (a + b)).bind fun l => (match v with | some x => f b x | none => some none : Option (Option α)).bind fun v => (tm f r (2 * a) (2 * a + b)).bind fun r => some (mkn l v r)

/-- The entries whose keys' bits are set. -/
def filt (m : Nat) : Tr α → (a b : Nat) → Tr α
  | .leaf, _, _ => .leaf
  | .node l v r, a, b => mkn (filt m l (2 * a) (a + b)) (bif Nat.testBit m b then v else none) (filt m r (2 * a) (2 * a + b))

def mapv {β : Type} (f : α → β) : Tr α → Tr β
  | .leaf => .leaf
  | .node l v r => .node (l.mapv f) (v.map f) (r.mapv f)

def ofList (l : List (Nat × α)) : Tr α := l.foldl (fun t kv => t.set kv.1 (some kv.2)) .leaf
end Tr

inductive Ex where
  | normal
  | exit (id : Nat)
  | ret
  | busy
  deriving Inhabited

/-- Objects of the abstract heap. -/
inductive AObj where
  | cells (t : TypeId) (cs : List DV)
  | row (t : TypeId) (es : List (List DV)) (pubd ver : Nat)
  | map (es : List (DV × DV))
  | siter (s : ByteArray) (pos : Nat)
  | loop (fid : Nat) (base : Tr DV) (params : List Nat) (assign body : Code) (bid : Nat) (done : Ex)
  deriving Inhabited

inductive TK where
  | bool | int (k : IntKind) | string
  | struct (fs : List (Nat × Nat))
  | array (len elem : Nat)
  | slice (elem : Nat)
  | map (k e : Nat)
  | ptr (e : Nat)
  | func | iface | other
  deriving Inhabited

structure TI where
  k : TK
  size : Nat
  bytes : Nat
  zero : List DV
  eqOk : Bool
  deriving Inhabited

def TI.isAgg (t : TI) : Bool := match t.k with | .struct _ | .array _ _ => true | _ => false

inductive Acc where
  | slot (t : Nat) (elem : TypeId)
  | cell (t off : Nat) (elem : TypeId)
  deriving Inhabited

/-- What the evaluator is told at a loop: which slots live on, which lists are grown. Any word is sound. -/
structure Hint where
  bid : Nat
  keep : Nat
  accs : List Acc
  raw : Bool
  deriving Inhabited

structure FI where
  body : Code
  nt : Nat
  nres : List ResultVar
  vmask : Nat
  hints : List Hint
  pur : Bool
  xm : List (Nat × Nat)
  rm : Nat
  deriving Inhabited

structure Env where
  ty : Nat → Option TI
  fn : Nat → Option FI
  meth : Nat → String → Option Nat

/-! Values -/
def cellsOf : DV → List DV
  | .agg cs => cs
  | v => [v]

def isCell : DV → Bool
  | .agg _ | .tup _ => false
  | _ => true

def ofVal : Value → Option DV
  | .bool b => some (.bool b)
  | .int k n => some (.int k n)
  | .string s => some (.str s)
  | .pointer none => some .nilp
  | .slice none 0 0 => some .nils
  | .map none => some .nilmap
  | .nilFunc => some .nilfn
  | .nilIface => some .nilif
  | _ => none

def opnd (ρ : Nat → Option DV) : Operand → Option DV
  | .tmp t => ρ t
  | .const v => ofVal v
  | .func f => some (.fn (.func f) [] [])
  | .global _ => none

def opnds (ρ : Nat → Option DV) : List Operand → Option (List DV)
  | [] => some []
  | x :: xs => (opnd ρ x).bind fun v => (opnds ρ xs).bind fun vs => some (v :: vs)

mutual
def idfree : DV → Bool
  | .bool _ | .int _ _ | .str _ | .nilp | .nils | .sl _ | .nilfn | .nilmap | .nilif => true
  | .agg cs => idfrees cs
  | .tup cs => idfrees cs
  | .fn _ a b => idfrees a && idfrees b
  | .iface _ v => idfree v
  | _ => false
def idfrees : List DV → Bool
  | [] => true
  | c :: cs => idfree c && idfrees cs
end

mutual
def bdd (n : Nat) : DV → Bool
  | .ptr i _ | .rptr i _ _ _ _ | .rs i _ | .map i | .iter i | .yld i => Nat.blt i n
  | .agg cs => bdds n cs
  | .tup cs => bdds n cs
  | .fn _ a b => bdds n a && bdds n b
  | .iface _ v => bdd n v
  | .pub cs => bdds n cs
  | _ => true
def bdds (n : Nat) : List DV → Bool
  | [] => true
  | c :: cs => bdd n c && bdds n cs
end

mutual
def frz (h : Nat → Option AObj) : DV → Option DV
  | .rs id v => (h id).bind fun | .row _ es _ u => bif Nat.beq u v then some (.sl es) else none | _ => none
  | .agg cs => (frzs h cs).bind fun cs => some (.agg cs)
  | .tup cs => (frzs h cs).bind fun cs => some (.tup cs)
  | .iface t v => (frz h v).bind fun v => some (.iface t v)
  | .nils => some (.sl [])
  | d => bif idfree d then some d else none
def frzs (h : Nat → Option AObj) : List DV → Option (List DV)
  | [] => some []
  | c :: cs => (frz h c).bind fun c => (frzs h cs).bind fun cs => some (c :: cs)
end

mutual
def rowsOf : DV → List Nat
  | .rs id _ => [id]
  | .agg cs => rowsOfs cs
  | .tup cs => rowsOfs cs
  | .iface _ v => rowsOf v
  | _ => []
def rowsOfs : List DV → List Nat
  | [] => []
  | c :: cs => rowsOf c ++ rowsOfs cs
end

/-- How many elements of a row can have been shown: none, or all. -/
def pn (p n : Nat) : Nat := match p with | 0 => 0 | _ + 1 => n

/-- A row of which nothing is known to be hidden. -/
def liftO : AObj → AObj
  | .row t es _ u => .row t es 1 u
  | o => o

/-- The rows that a value names are shown: from now on what they hold stays. -/
def showRows (h : Nat → Option AObj) : List Nat → List (Nat × Option AObj)
  | [] => []
  | i :: is => (match h i with | some (.row t es p u) => bif Nat.beq p 1 then [] else [(i, some (.row t es 1 u))] | _ => []) ++ showRows h is

def splice : List DV → Nat → List DV → List DV
  | cs, _, [] => cs
  | [], _, _ => []
  | _ :: cs, 0, v :: vs => v :: splice cs 0 vs
  | c :: cs, n + 1, vs => c :: splice cs n vs

def partOf (ti : TI) (cs : List DV) (off : Nat) : Option DV :=
  bif ti.isAgg then (bif Nat.ble (off + ti.size) cs.length then some (.agg ((cs.drop off).take ti.size)) else none) else cs[off]?

/-! Operations -/
/-- What an operation leaves: a value for its slot (none: nothing is known), and objects laid, turned or dropped. -/
structure Out where
  val : Option DV
  upd : List (Nat × Option AObj)

def ret (v : DV) : Option Out := some ⟨some v, []⟩

def cmpB (op : BinOp) (x y : Int) : Option DV :=
  match op with
  | .eql => some (.bool (x == y))
  | .neq => some (.bool (x != y))
  | .lss => some (.bool (x < y))
  | .leq => some (.bool (x ≤ y))
  | .gtr => some (.bool (x > y))
  | .geq => some (.bool (x ≥ y))
  | _ => none

def bitsB (op : BinOp) (k : IntKind) (x y : Int) : Option DV :=
  let a := BitVec.ofInt k.bits x
  let b := BitVec.ofInt k.bits y
  match op with
  | .and => some (.int k (k.wrap (a &&& b).toNat))
  | .or => some (.int k (k.wrap (a ||| b).toNat))
  | .xor => some (.int k (k.wrap (a ^^^ b).toNat))
  | .andNot => some (.int k (k.wrap (a &&& ~~~b).toNat))
  | _ => none

def intB (op : BinOp) (k : IntKind) (x y : Int) : Option DV :=
  match op with
  | .add => some (.int k (k.wrap (x + y)))
  | .sub => some (.int k (k.wrap (x - y)))
  | .mul => some (.int k (k.wrap (x * y)))
  | .quo => bif y == 0 then none else some (.int k (k.wrap (x.tdiv y)))
  | .rem => bif y == 0 then none else some (.int k (x.tmod y))
  | .and | .or | .xor | .andNot => bitsB op k x y
  | .shl | .shr => none
  | op => cmpB op x y

def shiftB (op : BinOp) (k : IntKind) (x y : Int) : Option DV :=
  bif decide (y < 0) then none else
  match op with
  | .shl => some (.int k (k.wrap (x * 2 ^ (min y.toNat k.bits))))
  | .shr => some (.int k (x.fdiv (2 ^ (min y.toNat k.bits))))
  | _ => none

def isShift : BinOp → Bool
  | .shl | .shr => true
  | _ => false

def strB (op : BinOp) (x y : ByteArray) : Option DV :=
  let eq := x.toList == y.toList
  let lt := Op.bytesLess x.toList y.toList
  match op with
  | .add => bif Nat.ble (x.size + y.size) 1099511627776 then some (.str (x ++ y)) else none
  | .eql => some (.bool eq)
  | .neq => some (.bool !eq)
  | .lss => some (.bool lt)
  | .leq => some (.bool (lt || eq))
  | .gtr => some (.bool !(lt || eq))
  | .geq => some (.bool !lt)
  | _ => none

/-- Cells that are held against each other: integers, bools, strings. -/
def eqCells : List DV → List DV → Option Bool
  | [], [] => some true
  | .int k a :: xs, .int k' b :: ys => bif k == k' then (eqCells xs ys).bind fun r => some (a == b && r) else none
  | .bool a :: xs, .bool b :: ys => (eqCells xs ys).bind fun r => some (a == b && r)
  | .str a :: xs, .str b :: ys => (eqCells xs ys).bind fun r => some (a == b && r)
  | _, _ => none

/-- Integers of the same kinds, bools, strings, cell by cell. -/
def kindsLike : List DV → List DV → Bool
  | [], [] => true
  | .int k _ :: zs, .int k' _ :: xs => k == k' && kindsLike zs xs
  | .bool _ :: zs, .bool _ :: xs => kindsLike zs xs
  | .str _ :: zs, .str _ :: xs => kindsLike zs xs
  | _, _ => false

def binD (E : Env) (op : BinOp) (t : TypeId) : DV → DV → Option DV
  | .int k x, .int k' y => bif isShift op then shiftB op k x y else bif k == k' then intB op k x y else none
  | .str x, .str y => strB op x y
  | .bool x, .bool y => (E.ty t).bind fun ti => match ti.k, op with
    | .bool, .eql => some (.bool (x == y))
    | .bool, .neq => some (.bool (!(x == y)))
    | _, _ => none
  | .agg x, .agg y => (E.ty t).bind fun ti => bif ti.eqOk && kindsLike ti.zero x && kindsLike ti.zero y then (match op with
    | .eql => (eqCells x y).bind fun r => some (.bool r)
    | .neq => (eqCells x y).bind fun r => some (.bool !r)
    | _ => none) else none
  | _, _ => none

def unD (op : UnOp) : DV → Option DV
  | .int k n => match op with | .neg => some (.int k (k.wrap (0 - n))) | _ => none
  | .bool b => match op with | .not => some (.bool !b) | _ => none
  | _ => none

/-- The number of an index, where it is one. -/
def idxOf (n : Nat) : DV → Option Nat
  | .int _ i => bif decide (0 ≤ i) && decide (i < n) then some i.toNat else none
  | _ => none

/-- A slice's elements. -/
def elemsOf (h : Nat → Option AObj) : DV → Option (List (List DV))
  | .nils => some []
  | .sl es => some es
  | .rs id v => (h id).bind fun | .row _ es _ u => bif Nat.beq u v then some es else none | _ => none
  | _ => none

def fillStruct (fs : List (Nat × Nat)) (E : Env) : List (Nat × DV) → List DV → Option (List DV)
  | [], cs => some cs
  | (i, v) :: ps, cs => (fs[i]?).bind fun (ft, off) => (E.ty ft).bind fun ti =>
      bif Nat.beq (cellsOf v).length ti.size && Nat.ble (off + ti.size) cs.length then fillStruct fs E ps (splice cs off (cellsOf v)) else none

def fillArray (size : Nat) : List (Nat × DV) → List DV → Option (List DV)
  | [], cs => some cs
  | (i, v) :: ps, cs => bif Nat.beq (cellsOf v).length size && Nat.ble (i * size + size) cs.length then fillArray size ps (splice cs (i * size) (cellsOf v)) else none

def partsD (ρ : Nat → Option DV) : List (Nat × Operand) → Option (List (Nat × DV))
  | [] => some []
  | (i, x) :: ps => (opnd ρ x).bind fun v => (partsD ρ ps).bind fun vs => some ((i, v) :: vs)

/-- The elements of a slice that is written out: parts 0, 1, .. in order, frozen. -/
def rowsD (h : Nat → Option AObj) (size : Nat) : Nat → List (Nat × DV) → Option (List (List DV))
  | _, [] => some []
  | k, (i, v) :: ps => bif Nat.beq i k && Nat.beq (cellsOf v).length size then (frzs h (cellsOf v)).bind fun c => bif c.all isCell then (rowsD h size (k + 1) ps).bind fun r => some (c :: r) else none else none

def addrOff : DV → Nat → Option DV
  | .ptr id off, n => some (.ptr id (off + n))
  | .rptr id v i e off, n => some (.rptr id v i e (off + n))
  | .pub cs, n => some (.pub (cs.drop n))
  | _, _ => none

def loadD (ti : TI) (h : Nat → Option AObj) : DV → Option DV
  | .ptr id off => (h id).bind fun | .cells _ cs => partOf ti cs off | _ => none
  | .rptr id v i e off => (h id).bind fun
    | .row _ es _ u => (es[i]?).bind fun c => bif Nat.beq u v && Nat.beq c.length e then partOf ti c off else none
    | _ => none
  | .pub cs => partOf ti cs 0
  | _ => none

def storeD (ti : TI) (h : Nat → Option AObj) (a v : DV) : Option (List (Nat × Option AObj)) :=
  bif Nat.beq (cellsOf v).length ti.size && (cellsOf v).all isCell then
    match a with
    | .ptr id off => (h id).bind fun
      | .cells t cs => bif Nat.ble (off + ti.size) cs.length then some [(id, some (.cells t (splice cs off (cellsOf v))))] else none
      | _ => none
    | .rptr id ver i e off => (h id).bind fun
      | .row t es p u => (es[i]?).bind fun c => bif Nat.beq u ver && Nat.beq c.length e && Nat.beq p 0 && idfrees (cellsOf v) && Nat.ble (off + ti.size) c.length then
          some [(id, some (.row t (es.set i (splice c off (cellsOf v))) p u))] else none
      | _ => none
    | _ => none
  else none

def min2D : DV → DV → Option DV
  | .int k x, .int _ y => some (.int k (bif decide (y < x) then y else x))
  | _, _ => none
def max2D : DV → DV → Option DV
  | .int k x, .int _ y => some (.int k (bif decide (y > x) then y else x))
  | _, _ => none
def foldD (f : DV → DV → Option DV) : DV → List DV → Option DV
  | x, [] => some x
  | x, y :: ys => (f x y).bind fun z => foldD f z ys

def lenD (k : TK) (h : Nat → Option AObj) (d : DV) : Option DV :=
  match k, d with
  | .string, .str s => some (.int .i64 (s.size : Nat))
  | .map _ _, .nilmap => some (.int .i64 0)
  | .map _ _, .map id => (h id).bind fun | .map es => some (.int .i64 (es.length : Nat)) | _ => none
  | .slice _, d => (elemsOf h d).bind fun es => some (.int .i64 (es.length : Nat))
  | .array n _, _ => some (.int .i64 (n : Nat))
  | _, _ => none

def appendD (E : Env) (nid : Nat) (h : Nat → Option AObj) (t : TypeId) (s x : DV) : Option Out :=
  (E.ty t).bind fun ti => match ti.k with
  | .slice e => (E.ty e).bind fun ei => (elemsOf h x).bind fun xs => bif Nat.blt 0 ei.size && Nat.ble ei.bytes 100000000000 then (match s with
    | .nils => (match xs with
      | [] => ret .nils
      | _ :: _ => bif xs.all (fun c => Nat.beq c.length ei.size) && Nat.ble (xs.length * (ei.bytes + 1)) 200000000000000 then some ⟨some (.rs nid 0), [(nid, some (.row e xs 0 0))]⟩ else none)
    | .rs id v => (h id).bind fun
      | .row e' es p u => bif Nat.beq u v && Nat.beq e' e && xs.all (fun c => Nat.beq c.length ei.size) && Nat.ble ((es.length + xs.length) * (ei.bytes + 1)) 200000000000000 then
          some ⟨some (.rs id (v + 1)), [(id, some (.row e (es ++ xs) p (v + 1)))]⟩ else none
      | _ => none
    | _ => none) else none
  | _ => none

def keyOk : DV → Bool
  | .int _ _ | .str _ | .bool _ => true
  | _ => false
def keyFits : TK → DV → Bool
  | .int _, .int _ _ => true
  | .string, .str _ => true
  | .bool, .bool _ => true
  | _, _ => false
def keyEq : DV → DV → Option Bool
  | .int k a, .int k' b => bif k == k' then some (a == b) else none
  | .str a, .str b => some (a == b)
  | .bool a, .bool b => some (a == b)
  | _, _ => none
def mapFind (k : DV) : List (DV × DV) → Option (Option DV)
  | [] => some none
  | (k', v) :: es => (keyEq k k').bind fun r => bif r then some (some v) else mapFind k es
def mapPut (k v : DV) : List (DV × DV) → Option (List (DV × DV))
  | [] => some [(k, v)]
  | (k', v') :: es => (keyEq k k').bind fun r => bif r then some ((k, v) :: es) else (mapPut k v es).bind fun es => some ((k', v') :: es)

def boundD : Option DV → Nat → Nat → Option Nat
  | none, dflt, _ => some dflt
  | some (.int _ i), _, y => bif decide (0 ≤ i) && decide (i ≤ y) then some i.toNat else none
  | _, _, _ => none

def subStr (s : ByteArray) (lo hi : Option DV) : Option DV :=
  (boundD hi s.size s.size).bind fun h => (boundD lo 0 h).bind fun l => some (.str (s.extract l h))

def subSl (es : List (List DV)) (lo hi : Option DV) : Option DV :=
  (boundD hi es.length es.length).bind fun h => (boundD lo 0 h).bind fun l => some (.sl ((es.take h).drop l))

def optOpnd (ρ : Nat → Option DV) : Option Operand → Option (Option DV)
  | none => some none
  | some x => (opnd ρ x).bind fun v => some (some v)

/-- One operation that is no call of a function. -/
def evOp (E : Env) (nid : Nat) (ρ : Nat → Option DV) (h : Nat → Option AObj) (op : Op) : Option Out :=
  match op with
  | .move x => (opnd ρ x).bind ret
  | .assign x => (opnd ρ x).bind ret
  | .pick c a b => (opnd ρ c).bind fun
    | .bool c => (bif c then opnd ρ a else opnd ρ b).bind ret
    | _ => none
  | .alloc t => (E.ty t).bind fun ti => some ⟨some (.ptr nid 0), [(nid, some (.cells t ti.zero))]⟩
  | .box t x => (opnd ρ x).bind fun v => bif (cellsOf v).all isCell then some ⟨some (.ptr nid 0), [(nid, some (.cells t (cellsOf v)))]⟩ else none
  | .build t ps => (E.ty t).bind fun ti => (partsD ρ ps.toList).bind fun vs => match ti.k with
    | .struct fs => (fillStruct fs E vs ti.zero).bind fun cs => ret (.agg cs)
    | .array _ e => (E.ty e).bind fun ei => (fillArray ei.size vs ti.zero).bind fun cs => ret (.agg cs)
    | _ => none
  | .buildSlice t n ps => (E.ty t).bind fun ti => match ti.k with
    | .slice e => (E.ty e).bind fun ei => (partsD ρ ps.toList).bind fun vs => (rowsD h ei.size 0 vs).bind fun es =>
        bif Nat.beq es.length n && Nat.ble (n * ei.size) 1048576 && Nat.blt 0 ei.size then some ⟨some (.rs nid 0), (nid, some (.row e es 0 0)) :: showRows h (rowsOfs (vs.map (·.2)))⟩ else none
    | _ => none
  | .load t a => (E.ty t).bind fun ti => (opnd ρ a).bind fun a => (loadD ti h a).bind ret
  | .store t a x => (E.ty t).bind fun ti => (opnd ρ a).bind fun a => (opnd ρ x).bind fun v => (storeD ti h a v).bind fun u => some ⟨some (.tup []), u⟩
  | .nilCheck x => (opnd ρ x).bind fun
    | .ptr i o => ret (.ptr i o)
    | .rptr i v j e o => ret (.rptr i v j e o)
    | .pub cs => ret (.pub cs)
    | _ => none
  | .binOp op t x y _ => (opnd ρ x).bind fun x => (opnd ρ y).bind fun y => (binD E op t x y).bind ret
  | .unOp op _ x => (opnd ρ x).bind fun x => (unD op x).bind ret
  | .convert s d x => (E.ty s).bind fun _ => (E.ty d).bind fun ti => (opnd ρ x).bind fun x => match ti.k, x with
    | .int k, .int _ n => ret (.int k (k.wrap n))
    | .string, .str s => ret (.str s)
    | _, _ => none
  | .makeFunc f a c => (opnds ρ a.toList).bind fun a => (opnds ρ c.toList).bind fun c => ret (.fn f a c)
  | .makeMap _ none => some ⟨some (.map nid), [(nid, some (.map []))]⟩
  | .slice t x lo hi none => (E.ty t).bind fun ti => (opnd ρ x).bind fun x => (optOpnd ρ lo).bind fun lo => (optOpnd ρ hi).bind fun hi => match ti.k, x with
    | .string, .str s => (subStr s lo hi).bind ret
    | .slice e, d => (E.ty e).bind fun ei => (elemsOf h d).bind fun es => bif es.all (fun c => Nat.beq c.length ei.size) && Nat.blt 0 ei.size then (subSl es lo hi).bind fun r => some ⟨some r, showRows h (rowsOf d)⟩ else none
    | _, _ => none
  | .fieldAddr s x f => (E.ty s).bind fun ti => (opnd ρ x).bind fun x => match ti.k with
    | .struct fs => (fs[f]?).bind fun (ft, off) => (E.ty ft).bind fun fi => bif Nat.blt 0 fi.size then (addrOff x off).bind ret else none
    | _ => none
  | .field s x f => (E.ty s).bind fun ti => (opnd ρ x).bind fun x => match ti.k, x with
    | .struct fs, .agg cs => (fs[f]?).bind fun (ft, off) => (E.ty ft).bind fun fi => (partOf fi cs off).bind ret
    | _, _ => none
  | .indexAddr t x i => (E.ty t).bind fun ti => (opnd ρ x).bind fun x => (opnd ρ i).bind fun i => match ti.k with
    | .array len e => (E.ty e).bind fun ei => (idxOf len i).bind fun i => (addrOff x (i * ei.size)).bind ret
    | .slice e => (E.ty e).bind fun ei => match x with
      | .sl es => (idxOf es.length i).bind fun i => (es[i]?).bind fun c => bif Nat.beq c.length ei.size && Nat.blt 0 ei.size then ret (.pub c) else none
      | .rs id v => (h id).bind fun
        | .row _ es _ u => (idxOf es.length i).bind fun i => bif Nat.beq u v && Nat.blt 0 ei.size then ret (.rptr id v i ei.size 0) else none
        | _ => none
      | _ => none
    | _ => none
  | .index t x i => (E.ty t).bind fun ti => (opnd ρ x).bind fun x => (opnd ρ i).bind fun i => match ti.k, x with
    | .array len e, .agg cs => (E.ty e).bind fun ei => (idxOf len i).bind fun i => (partOf ei cs (i * ei.size)).bind ret
    | .string, .str s => (idxOf s.size i).bind fun i => (s[i]?).bind fun b => ret (.int .u8 b.toNat)
    | _, _ => none
  | .lookup t m k ok => (E.ty t).bind fun ti => (opnd ρ m).bind fun m => (opnd ρ k).bind fun k => match ti.k with
    | .map kt e => (E.ty e).bind fun ei => (E.ty kt).bind fun ki => bif keyFits ki.k k && Nat.beq ei.size 1 && !ei.isAgg then
        ((match m with | .nilmap => some [] | .map id => (h id).bind (fun | .map es => some es | _ => none) | _ => none) : Option (List (DV × DV))).bind fun es =>
        (mapFind k es).bind fun r => match r, ei.zero with
          | some v, _ => ret (bif ok then .tup [v, .bool true] else v)
          | none, z :: _ => ret (bif ok then .tup [z, .bool false] else z)
          | _, _ => none
      else none
    | _ => none
  | .mapUpdate t m k v => (E.ty t).bind fun ti => (opnd ρ m).bind fun m => (opnd ρ k).bind fun k => (opnd ρ v).bind fun v => match ti.k, m with
    | .map kt _, .map id => (E.ty kt).bind fun ki => (h id).bind fun
      | .map es => bif keyFits ki.k k && isCell v && idfree v then (mapPut k v es).bind fun es => some ⟨some (.tup []), [(id, some (.map es))]⟩ else none
      | _ => none
    | _, _ => none
  | .range t x => (E.ty t).bind fun ti => (opnd ρ x).bind fun x => match ti.k, x with
    | .string, .str s => some ⟨some (.iter nid), [(nid, some (.siter s 0))]⟩
    | _, _ => none
  | .next it true => (opnd ρ it).bind fun
    | .iter id => (h id).bind fun
      | .siter s pos => bif decide (pos < s.size) then
          some ⟨some (.tup [.bool true, .int .i64 (pos : Nat), .int .i32 (Utf8.decode s pos).1]), [(id, some (.siter s (pos + (Utf8.decode s pos).2)))]⟩
        else ret (.tup [.bool false])
      | _ => none
    | _ => none
  | .extract t i => (opnd ρ t).bind fun
    | .tup vs => (vs[i]?).bind ret
    | _ => none
  | .call c => match c.callee with
    | .builtin .len => (match c.args.toList, c.argTypes.toList with
      | [x], t :: _ => (E.ty t).bind fun ti => (opnd ρ x).bind fun x => (lenD ti.k h x).bind ret
      | _, _ => none)
    | .builtin .append => (match c.args.toList, c.argTypes.toList with
      | [s, x], [t, t'] => bif Nat.beq t t' then (opnd ρ s).bind fun s => (opnd ρ x).bind fun x => appendD E nid h t s x else none
      | _, _ => none)
    | .builtin .min => (opnds ρ c.args.toList).bind fun vs => (match vs with | x :: xs => (foldD min2D x xs).bind ret | [] => none)
    | .builtin .max => (opnds ρ c.args.toList).bind fun vs => (match vs with | x :: xs => (foldD max2D x xs).bind ret | [] => none)
    | _ => none
  | _ => none

/-- The target of a call of a function value and its arguments. -/
def target (ρ : Nat → Option DV) (c : Call) : Option (DV × List DV) :=
  match c.callee with
  | .value f => (opnd ρ f).bind fun
    | .fn (.func g) first caps => (opnds ρ c.args.toList).bind fun as => some (.fn (.func g) [] [], first ++ as ++ caps)
    | .yld id => (opnds ρ c.args.toList).bind fun as => some (.yld id, as)
    | _ => none
  | _ => none

/-- A call that names no object but rows. -/
def evCall (call : Nat → List DV → Option DV) (ρ : Nat → Option DV) (h : Nat → Option AObj) (c : Call) : Option Out :=
  (target ρ c).bind fun
  | (.fn (.func g) _ _, as) => (frzs h as).bind fun fs => (call g fs).bind fun r => some ⟨some r, showRows h (rowsOfs as)⟩
  | _ => none

def isCall (op : Op) : Option Call := match op with
  | .call c => (match c.callee with | .value _ => some c | _ => none)
  | _ => none

def evAny (E : Env) (call : Nat → List DV → Option DV) (nid : Nat) (ρ : Nat → Option DV) (h : Nat → Option AObj) (op : Op) : Option Out :=
  match isCall op with
  | some c => evCall call ρ h c
  | none => evOp E nid ρ h op

/-- Is the function that is called one of plain values? -/
def purT (E : Env) : DV × List DV → Bool
  | (.fn (.func g) _ _, _) => match E.fn g with
    | some F => F.pur
    | none => false
  | _ => false

/-- One operation; 'some none': a call on the heap itself. -/
def stepD (E : Env) (call : Nat → List DV → Option DV) (nid : Nat) (ρ : Nat → Option DV) (h : Nat → Option AObj) (op : Op) : Option (Option Out) :=
  match isCall op with
  | none => (evOp E nid ρ h op).bind fun r => some (some r)
  | some c => (target ρ c).bind fun tgt => bif purT E tgt then (evCall call ρ h c).bind fun r => some (some r) else some none

/-- The state between two statements. -/
structure St where
  base : Tr DV
  objs : Tr AObj
  next : Nat

abbrev Loc := List (Nat × Option DV)
def Loc.find (l : Loc) (t : Nat) : Option (Option DV) := match l with
  | [] => none
  | (s, v) :: l => bif Nat.beq s t then some v else Loc.find l t

def slotOf (V : Nat) (base : Tr DV) (loc : Loc) (t : Nat) : Option DV :=
  bif Nat.testBit V t then base.get t else (match loc.find t with | some v => v | none => none)

def updObjs (o : Tr AObj) : List (Nat × Option AObj) → Tr AObj
  | [] => o
  | (i, x) :: us => updObjs (o.set i x) us

/-- Is an operation wanted? (none: the guard's slot is not known) -/
def wantedD (ops : Array Oper) (ρ : Nat → Option DV) (o : Oper) : Option Bool :=
  match o.guard with
  | none => some true
  | some (j, want) => match (ops[j]?).bind (·.dst) with
    | some t => (match ρ t with | some (.bool b) => some (b == want) | some _ => some false | none => none)
    | none => none

/-- A call on the heap itself. -/
abbrev CallH := Nat → List DV → Tr AObj → Nat → Option (DV × Tr AObj × Nat)

structure Mid where
  base : Tr DV
  loc : Loc
  objs : Tr AObj
  next : Nat

def Mid.put (V nt : Nat) (m : Mid) (dst : Option Tmp) (v : Option DV) : Mid :=
  match dst with
  | none => m
  | some d => bif !Nat.blt d nt then m else bif Nat.testBit V d then { m with base := m.base.set d v } else { m with loc := (d, v) :: m.loc }

/-! Regions whose order is drawn: each operation is run on what those ahead of it by force have left. -/
structure Done where
  dst : Option Tmp
  anc : Nat
  touch : List Nat
  out : Out

mutual
def idsOf : DV → List Nat
  | .ptr i _ | .rptr i _ _ _ _ | .rs i _ | .map i | .iter i | .yld i => [i]
  | .agg cs => idsOfs cs
  | .tup cs => idsOfs cs
  | .fn _ a b => idsOfs a ++ idsOfs b
  | .iface _ v => idsOf v
  | _ => []
def idsOfs : List DV → List Nat
  | [] => []
  | c :: cs => idsOf c ++ idsOfs cs
end

/-- The objects that an operation can look at. -/
def touch (ρ : Nat → Option DV) (op : Op) : List Nat := op.operands.toList.flatMap fun x => match opnd ρ x with | some d => idsOf d | none => []

/-- The slot as operation k may see it. 'ds': what has been run, the last first, with its place. -/
def seen (anc : Nat) (ρ : Nat → Option DV) : List (Nat × Done) → Nat → Option DV
  | [], t => ρ t
  | (j, d) :: ds, t => bif (match d.dst with | some s => Nat.beq s t | none => false) then (bif Nat.testBit anc j then d.out.val else none) else seen anc ρ ds t

def updFind (id : Nat) : List (Nat × Option AObj) → Option (Option AObj)
  | [] => none
  | (i, x) :: us => match updFind id us with
    | some y => some y
    | none => bif Nat.beq i id then some x else none

def seenH (anc : Nat) (h : Nat → Option AObj) : List (Nat × Done) → Nat → Option AObj
  | [], id => h id
  | (j, d) :: ds, id => match updFind id d.out.upd with
    | some x => bif Nat.testBit anc j then x else none
    | none => seenH anc h ds id

/-- A later operation writes a slot that this one looks at, or writes, and is not bound to come behind it. -/
def ancOf (ops : Array Oper) (ds : List (Nat × Done)) (o : Oper) (k : Nat) : Nat :=
  o.after.toList.foldl (fun m e => bif Region.binds .any e && Nat.blt e.on k then m ||| (1 <<< e.on) ||| ((ds.find? (fun d => Nat.beq d.1 e.on)).map (·.2.anc)).getD 0 else m) 0

def putAll (V nt : Nat) : List (Nat × Done) → Mid → Mid
  | [], m => m
  | (_, d) :: ds, m => let m := putAll V nt ds m; { m with objs := updObjs m.objs d.out.upd }.put V nt d.dst d.out.val

/-- A call that is none of plain values: it is run on the heap itself. -/
def evImpure (callH callY : CallH) (V nt : Nat) (m : Mid) (dst : Option Tmp) : DV × List DV → Option Mid
  | (.fn (.func g) _ _, as) => (callH g as m.objs m.next).bind fun x => some ({ m with objs := x.2.1, next := x.2.2 }.put V nt dst (some x.1))
  | (.yld id, as) => (callY id as m.objs m.next).bind fun x => some ({ m with objs := x.2.1, next := x.2.2 }.put V nt dst (some x.1))
  | _ => none

/-- A region in the order of its text: operation k may lay an object with the number b + k. -/
def evSeq (E : Env) (call : Nat → List DV → Option DV) (callH callY : CallH) (V nt : Nat) (ops : Array Oper) (b : Nat) : Nat → List Oper → Mid → Option Mid
  | _, [], m => some m
  | k, o :: os, m =>
    (wantedD ops (slotOf V m.base m.loc) o).bind fun want => bif want then
      (stepD E call (b + k) (slotOf V m.base m.loc) m.objs.get o.op).bind fun
      | some r => evSeq E call callH callY V nt ops b (k + 1) os ({ m with objs := updObjs m.objs r.upd }.put V nt o.dst r.val)
      | none => (isCall o.op).bind fun cl => (target (slotOf V m.base m.loc) cl).bind fun tgt => (evImpure callH callY V nt m o.dst tgt).bind fun m =>
          evSeq E call callH callY V nt ops b (k + 1) os m
    else evSeq E call callH callY V nt ops b (k + 1) os (m.put V nt o.dst (some (.tup [])))

/-- 'm': what all operations below c have left; 'ds': what those from c on have, each by itself. -/
def evDraw (E : Env) (call : Nat → List DV → Option DV) (callH callY : CallH) (V nt : Nat) (ops : Array Oper) (b : Nat) : Nat → List Oper → Mid → Nat → List (Nat × Done) → Option Mid
  | _, [], m, _, ds => some (putAll V nt ds m)
  | k, o :: os, m, c, ds =>
    let anc := ancOf ops ds o k
    let ρ := seen anc (slotOf V m.base m.loc) ds
    let h := seenH anc m.objs.get ds
    bif o.after.all (fun e => !Region.binds .any e || Nat.blt e.on k) && (match o.dst with | none => true | some t => Nat.blt t nt) && (Nat.beq c 0 || Nat.testBit anc (c - 1)) && ds.all (fun d => Nat.testBit anc d.1 || (match o.dst with
        | none => true
        | some t => !((ops.getD d.1 o).looksAt ops).contains t && !(match d.2.dst with | some s => Nat.beq s t | none => false))) then
      (wantedD ops ρ o).bind fun want => bif want then
        (stepD E call (b + k) ρ h o.op).bind fun
        | some r => bif r.upd.all (fun u => ds.all (fun d => Nat.testBit anc d.1 || !d.2.touch.contains u.1 && (updFind u.1 d.2.out.upd).isNone)) then
            evDraw E call callH callY V nt ops b (k + 1) os m c ((k, ⟨o.dst, anc, touch ρ o.op, r⟩) :: ds)
          else none
        | none => bif ds.all (fun d => Nat.testBit anc d.1) then
            let m := putAll V nt ds m
            (isCall o.op).bind fun cl => (target (slotOf V m.base m.loc) cl).bind fun tgt => (evImpure callH callY V nt m o.dst tgt).bind fun m =>
              evDraw E call callH callY V nt ops b (k + 1) os m (k + 1) []
          else none
      else evDraw E call callH callY V nt ops b (k + 1) os m c ((k, ⟨o.dst, anc, [], ⟨some (.tup []), []⟩⟩) :: ds)
    else none

def evRegion (E : Env) (call : Nat → List DV → Option DV) (callH callY : CallH) (V nt : Nat) (ops : Array Oper) (draw : Bool) (s : St) : Option St :=
  (bif draw then evDraw E call callH callY V nt ops s.next 0 ops.toList ⟨s.base, [], s.objs, s.next + ops.size⟩ 0 []
   else evSeq E call callH callY V nt ops s.next 0 ops.toList ⟨s.base, [], s.objs, s.next + ops.size⟩).bind fun m => some ⟨m.base, m.objs, m.next⟩

/-! Code -/
/-- The row that a loop grows, where its number is n0 or above. -/
def accSrc (o : Tr AObj) (b0 : Tr DV) : Acc → Option (Nat × Nat)
  | .slot t _ => (match b0.get t with
    | some (.rs id v) => some (id, v)
    | _ => none)
  | .cell t off _ => (match b0.get t with
    | some (.ptr q 0) => (match o.get q with
      | some (.cells _ cs) => (match cs[off]? with
        | some (.rs id v) => some (id, v)
        | _ => none)
      | _ => none)
    | _ => none)

def findJ (id v : Nat) : Nat → List (Option (Nat × Nat)) → Option Nat
  | _, [] => none
  | j, some (i, u) :: l => bif Nat.beq i id && Nat.beq u v then some j else findJ id v (j + 1) l
  | j, none :: l => findJ id v (j + 1) l

/-- The row gets a new number. -/
def moved (id : Nat) : List (Option (Nat × Nat)) → Bool
  | [] => false
  | some (i, _) :: l => Nat.beq i id || moved id l
  | none :: l => moved id l

mutual
def ren (n0 : Nat) (L : List (Option (Nat × Nat))) : DV → Option DV
  | .rs id v => match findJ id v 0 L with
    | some j => some (.rs (n0 + j) 0)
    | none => bif Nat.blt id n0 && !moved id L then some (.rs id v) else none
  | .agg cs => (rens n0 L cs).bind fun cs => some (.agg cs)
  | .tup cs => (rens n0 L cs).bind fun cs => some (.tup cs)
  | d => bif bdd n0 d then some d else none
def rens (n0 : Nat) (L : List (Option (Nat × Nat))) : List DV → Option (List DV)
  | [] => some []
  | c :: cs => (ren n0 L c).bind fun c => (rens n0 L cs).bind fun cs => some (c :: cs)
end

def renObj (n0 : Nat) (L : List (Option (Nat × Nat))) : AObj → Option AObj
  | .cells t cs => (rens n0 L cs).bind fun cs => some (.cells t cs)
  | .loop fid b ps as bo bid ex => (b.tm (fun _ d => (ren n0 L d).bind fun d => some (some d)) 1 0).bind fun b => some (.loop fid b ps as bo bid ex)
  | o => some o

def uniq : List (Option (Nat × Nat)) → Bool
  | [] => true
  | none :: l => uniq l
  | some (i, _) :: l => l.all (fun | some (k, _) => !Nat.beq k i | none => true) && uniq l

/-- The grown rows under their new numbers. -/
def addRows (o : Tr AObj) (n0 : Nat) : Nat → List (Option (Nat × Nat)) → Tr AObj → Option (Tr AObj)
  | _, [], no => some no
  | j, none :: l, no => addRows o n0 (j + 1) l no
  | j, some (id, v) :: l, no => (match o.get id with
    | some (.row e es p u) => bif Nat.beq u v then addRows o n0 (j + 1) l (no.set (n0 + j) (some (.row e es p 0))) else none
    | _ => none)

/-- Lists that are nil become rows of their own. -/
def nilRows (E : Env) (n0 : Nat) : Nat → List Acc → Tr DV × Tr AObj → Option (Tr DV × Tr AObj)
  | _, [], r => some r
  | j, .slot t e :: as, (b, no) => (match b.get t with
    | some .nils => (E.ty e).bind fun ei => bif Nat.blt 0 ei.size && (no.get (n0 + j)).isNone then nilRows E n0 (j + 1) as (b.set t (some (.rs (n0 + j) 0)), no.set (n0 + j) (some (.row e [] 0 0))) else none
    | _ => nilRows E n0 (j + 1) as (b, no))
  | j, .cell t off e :: as, (b, no) => (match b.get t with
    | some (.ptr q 0) => (match no.get q with
      | some (.cells ct cs) => (match cs[off]? with
        | some .nils => (E.ty e).bind fun ei => bif Nat.blt 0 ei.size && (no.get (n0 + j)).isNone then nilRows E n0 (j + 1) as (b, (no.set q (some (.cells ct (cs.set off (.rs (n0 + j) 0))))).set (n0 + j) (some (.row e [] 0 0))) else none
        | _ => nilRows E n0 (j + 1) as (b, no))
      | _ => nilRows E n0 (j + 1) as (b, no))
    | _ => nilRows E n0 (j + 1) as (b, no))

mutual
def refsV : DV → List (Nat × Nat)
  | .rs id v => [(id, v)]
  | .agg cs => refsVs cs
  | .tup cs => refsVs cs
  | .fn _ a b => refsVs a ++ refsVs b
  | .iface _ v => refsV v
  | _ => []
def refsVs : List DV → List (Nat × Nat)
  | [] => []
  | c :: cs => refsV c ++ refsVs cs
end

def Tr.ents {α : Type} : Tr α → (a b : Nat) → List (Nat × α)
  | .leaf, _, _ => []
  | .node l v r, a, b => Tr.ents l (2 * a) (a + b) ++ ((match v with | some x => [(b, x)] | none => []) ++ Tr.ents r (2 * a) (2 * a + b))

def refsO : AObj → List (Nat × Nat)
  | .cells _ cs => refsVs cs
  | .loop _ b _ _ _ _ _ => (b.ents 1 0).flatMap fun p => refsV p.2
  | _ => []

/-- The row as it stands now. -/
def rowNow (o : Nat → Option AObj) (p : Nat × Nat) : Bool := match o p.1 with
  | some (.row _ _ _ u) => Nat.beq u p.2
  | _ => false

/-- Rows, each once, that are not among others. -/
def addRefs (ok : Nat × Nat → Bool) (A : List (Option (Nat × Nat))) : List (Nat × Nat) → List (Nat × Nat) → List (Nat × Nat)
  | [], acc => acc
  | p :: ps, acc => bif ok p && !moved p.1 A && !moved p.1 (acc.map some) then addRefs ok A ps (acc ++ [p]) else addRefs ok A ps acc

def extraL (o : Tr AObj) (b : Tr DV) (n0 keep : Nat) (A : List (Option (Nat × Nat))) : List (Nat × Nat) :=
  addRefs (rowNow o.get) A (((o.ents 1 0).flatMap fun p => bif Nat.blt p.1 n0 then refsO p.2 else []) ++ ((b.ents 1 0).flatMap fun p => bif Nat.testBit keep p.1 then refsV p.2 else [])) []

def norm0 (E : Env) (hint : Hint) (n0 : Nat) (s : St) : Option St :=
  let A := hint.accs.map (accSrc s.objs s.base)
  let X := extraL s.objs s.base n0 hint.keep A
  let L := X.map some ++ A
  bif uniq L then
    (s.base.tm (fun t d => bif Nat.testBit hint.keep t then (ren n0 L d).bind fun d => some (some d) else some none) 1 0).bind fun b =>
    (s.objs.tm (fun i x => bif Nat.blt i n0 && !moved i L then (renObj n0 L x).bind fun x => some (some x) else some none) 1 0).bind fun o =>
    (addRows s.objs n0 0 L o).bind fun o => (nilRows E n0 X.length (hint.accs) (b, o)).bind fun r => some ⟨r.1, r.2, n0 + X.length + hint.accs.length⟩
  else none

/-- The head of a loop. Where the hint does not say otherwise, rows count as shown from here on. -/
def norm (E : Env) (hint : Hint) (n0 : Nat) (s : St) : Option St :=
  (norm0 E hint n0 s).bind fun s => some (bif hint.raw then s else { s with objs := s.objs.mapv liftO })

/-- Slots that nobody looks at again are forgotten. -/
def St.keep (m : Nat) (s : St) : St := { s with base := s.base.filt m 1 0 }
def St.keepX (F : FI) (id : Nat) (s : St) : St := match F.xm.find? fun p => Nat.beq p.1 id with
  | some p => s.keep p.2
  | none => s

def iter (nrm : St → Option St) (step : St → Option (Ex × St)) : Nat → St → Option (Ex × St)
  | 0, _ => none
  | n + 1, s => (nrm s).bind fun s => (step s).bind fun r => match r.1 with
    | .normal => iter nrm step n r.2
    | _ => some r

/-- No round, or one whose loop is known. -/
def inRound (rnd : Option Nat) (h : Nat → Option AObj) : Bool := match rnd with
  | none => true
  | some l => (match h l with | some (.loop ..) => true | _ => false)

def evC (E : Env) (rnd : Option Nat) (fid : Nat) (F : FI) (call : Nat → List DV → Option DV) (callH callY : CallH) (fuel : Nat) : Nat → Code → St → Option (Ex × St)
  | _, .skip, s => some (.normal, s)
  | _, .region _ ops draw, s => (evRegion E call callH callY F.vmask F.nt ops draw s).bind fun s => some (.normal, s)
  | bid, .seq x y, s => (evC E rnd fid F call callH callY fuel bid x s).bind fun r => match r.1 with
    | .normal => evC E rnd fid F call callH callY fuel bid y r.2
    | _ => some r
  | bid, .cond c x y, s => (match opnd s.base.get c with
    | some (.bool t) => bif t then evC E rnd fid F call callH callY fuel bid x s else evC E rnd fid F call callH callY fuel bid y s
    | _ => none)
  | _, .block id c, s => (evC E rnd fid F call callH callY fuel id c s).bind fun r => match r.1 with
    | .exit i => bif Nat.beq i id then some (.normal, r.2) else some r
    | _ => some r
  | bid, .loop c, s => ((F.hints.find? fun h => Nat.beq h.bid bid) : Option Hint).bind fun hint =>
      iter (norm E hint s.next) (evC E rnd fid F call callH callY fuel bid c) fuel s
  | _, .exit id, s => some (.exit id, s.keepX F id)
  | bid, .scope c, s => evC E rnd fid F call callH callY fuel bid c s
  | _, .label _, s => some (.normal, s)
  | _, .ret, s => some (.ret, s.keep F.rm)
  | bid, .rangeFunc f ps assign body, s0 => bif inRound rnd s0.objs.get then Option.bind (match (F.hints.find? fun h => Nat.beq h.bid bid : Option Hint) with
      | some hint => (nilRows E s0.next 0 hint.accs (s0.base, s0.objs)).bind fun r => some (St.mk r.1 r.2 (s0.next + hint.accs.length))
      | none => some s0) fun (s : St) => (opnd s.base.get f).bind fun fv => (match fv with
    | .fn (.func g) first caps =>
      (callH g (first ++ [.yld s.next] ++ caps) (s.objs.set s.next (some (.loop fid s.base ps.toList assign body bid .normal))) (s.next + 1)).bind fun x =>
        (match x.2.1.get s.next with
        | some (.loop _ _ _ _ _ _ ex) => (match ex with | .busy => none | _ => some (ex, { s with objs := x.2.1.set s.next none, next := x.2.2 }))
        | _ => none)
    | _ => none) else none
  | _, _, _ => none

def resD (E : Env) (base : Nat → Option DV) (h : Nat → Option AObj) : List ResultVar → Option (List DV)
  | [] => some []
  | .tmp t :: rs => (base t).bind fun v => (resD E base h rs).bind fun vs => some (v :: vs)
  | .cell a t :: rs => (E.ty t).bind fun ti => (base a).bind fun a => (loadD ti h a).bind fun v => (resD E base h rs).bind fun vs => some (v :: vs)

def pack : List DV → DV
  | [v] => v
  | vs => .tup vs

def argBase (V : Nat) : Nat → List DV → Tr DV → Tr DV
  | _, [], b => b
  | k, v :: vs, b => argBase V (k + 1) vs (bif Nat.testBit V k then b.set k (some v) else b)

def setParams (V nt : Nat) : List Nat → List DV → Tr DV → Option (Tr DV)
  | [], [], b => some b
  | p :: ps, v :: vs, b => bif Nat.blt p nt then setParams V nt ps vs (bif Nat.testBit V p then b.set p (some v) else b) else none
  | _, _, _ => none

/-- false: a function on a heap; true: a call of the function that a range over a function hands out, one round of the loop with that number. -/
def evX (E : Env) : Nat → Bool → CallH
  | 0, _, _, _, _, _ => none
  | n + 1, false, f, args, objs, next =>
    (E.fn f).bind fun F => bif Nat.ble args.length F.nt then
      (evC E none f F (fun g as => (evX E n false g as .leaf 0).bind fun x => frz x.2.1.get x.1) (evX E n false) (evX E n true) n 0 F.body ⟨argBase F.vmask 0 args .leaf, objs, next⟩).bind fun r =>
        match r.1 with
        | .exit _ | .busy => none
        | _ => (resD E r.2.base.get r.2.objs.get F.nres).bind fun vs => some (pack vs, r.2.objs, r.2.next)
      else none
  | n + 1, true, l, args, objs, next => (match objs.get l with
    | some (.loop fid base ps assign body bid .normal) => (E.fn fid).bind fun F => (setParams F.vmask F.nt ps args base).bind fun b =>
        let run := evC E (some l) fid F (fun g as => (evX E n false g as .leaf 0).bind fun x => frz x.2.1.get x.1) (evX E n false) (evX E n true) n bid
        (run assign ⟨b, objs, next⟩).bind fun r => (match r.1, r.2.objs.get l with
        | .normal, some (.loop fid2 base2 ps2 assign2 body2 bid2 .normal) => (run body { r.2 with objs := r.2.objs.set l (some (.loop fid2 base2 ps2 assign2 body2 bid2 .busy)) }).bind fun r => (match r.1, r.2.objs.get l with
          | .busy, _ => none
          | ex, some (.loop fid3 base3 ps3 assign3 body3 bid3 .busy) => some (.bool (match ex with | .normal => true | _ => false), r.2.objs.set l (some (.loop fid3 base3 ps3 assign3 body3 bid3 ex)), r.2.next)
          | _, _ => none)
        | _, _ => none)
    | _ => none)

/-- A function of plain values. -/
def evF (E : Env) (n f : Nat) (args : List DV) : Option DV := (evX E n false f args .leaf 0).bind fun x => frz x.2.1.get x.1

end Go.Ab
