/- The typed evaluator: it runs the model's code on values whose slices are lists of plain Lean values, and hands on what comes of it. No condition; definitions alone. -/
import Derived.Test.YtdoejdmpmpgmiaaAb1
set_option linter.unusedSectionVars false
set_option linter.unusedVariables false
set_option linter.unusedSimpArgs false
namespace Go.Ab

/-- The types of plain values. 'st i' is struct number i. -/
inductive Ty where
  | bool
  | int (k : IntKind)
  | str
  | sl (t : Ty)
  | arr (n : Nat) (t : Ty)
  | st (i : Nat)
  deriving DecidableEq, Inhabited

def Val (S : Nat → Type) : Ty → Type
  | .bool => Bool
  | .int _ => Int
  | .str => ByteArray
  | .sl t => List (Val S t)
  | .arr _ t => Nat → Val S t
  | .st i => S i

/-- Abstract values whose slices and arrays are typed. -/
inductive TV (S : Nat → Type) where
  | bool (b : Bool)
  | int (k : IntKind) (n : Int)
  | str (s : ByteArray)
  | nilp
  | ptr (id off : Nat)
  | ap (id base i esz off : Nat)
  | rptr (id ver i esz off : Nat)
  | pub (cs : List (TV S))
  | nils
  | sl0
  | sl (t : Ty) (xs : List (Val S t))
  | rs (id ver : Nat)
  | arr (t : Ty) (n : Nat) (a : Nat → Val S t)
  | stc (i : Nat) (x : S i)
  | agg (cs : List (TV S))
  | tup (vs : List (TV S))
  | fn (f : Fn) (first caps : List (TV S))
  | nilfn
  | map (id : Nat)
  | nilmap
  | iface (t : TypeId) (v : TV S)
  | nilif
  | iter (id : Nat)
  | yld (id : Nat)

inductive TObj (S : Nat → Type) where
  | cells (t : TypeId) (cs : List (TV S))
  | row (e : TypeId) (t : Ty) (xs : List (Val S t)) (pubd ver : Nat)
  | map (kt et : Ty) (m : List (Val S kt × Val S et))
  | siter (s : ByteArray) (pos : Nat)
  | loop (fid : Nat) (base : Tr (TV S)) (params : List Nat) (assign body : Code) (bid : Nat) (done : Ex) (path at_ : List Nat)

/-- The structs: how many cells each has, what lies in them, and how it is read off. -/
structure TS (S : Nat → Type) where
  size : Nat → Nat
  cells : ∀ i, S i → List (TV S)
  dcells : ∀ i, S i → List DV
  rd : ∀ i, List (TV S) → Option (S i × List (TV S))
  dflt : ∀ i, S i

section
variable {S : Nat → Type}

def tsz (T : TS S) : Ty → Nat
  | .arr n t => n * tsz T t
  | .st i => T.size i
  | _ => 1

def tdf (T : TS S) : (t : Ty) → Val S t
  | .bool => false
  | .int _ => (0 : Int)
  | .str => ByteArray.empty
  | .sl _ => []
  | .arr _ t => fun _ => tdf T t
  | .st i => T.dflt i

def isAggT : Ty → Bool
  | .arr _ _ | .st _ => true
  | _ => false

/-- The cells of a plain value. -/
def tcl (T : TS S) : (t : Ty) → Val S t → List (TV S)
  | .bool, b => [.bool b]
  | .int k, n => [.int k n]
  | .str, s => [.str s]
  | .sl t, xs => [.sl t xs]
  | .arr n t, a => [.arr t n a]
  | .st i, x => [.stc i x]

def dcl (T : TS S) : (t : Ty) → Val S t → List DV
  | .bool, b => [.bool b]
  | .int k, n => [.int k n]
  | .str, s => [.str s]
  | .sl t, xs => [.sl (xs.map (dcl T t))]
  | .arr n t, a => (List.range n).flatMap fun j => dcl T t (a j)
  | .st i, x => T.dcells i x

/-- The cells of an array. -/
def acl (T : TS S) (t : Ty) (n : Nat) (a : Nat → Val S t) : List DV := (List.range n).flatMap fun j => dcl T t (a j)

def tval (T : TS S) : (t : Ty) → Val S t → TV S
  | .bool, b => .bool b
  | .int k, n => .int k n
  | .str, s => .str s
  | .sl t, xs => .sl t xs
  | .arr n t, a => .agg [.arr t n a]
  | .st i, x => .agg [.stc i x]

def dval (T : TS S) : (t : Ty) → Val S t → DV
  | .bool, b => .bool b
  | .int k, n => .int k n
  | .str, s => .str s
  | .sl t, xs => .sl (xs.map (dcl T t))
  | .arr n t, a => .agg (acl T t n a)
  | .st i, x => .agg (T.dcells i x)

/-! What a typed value is among the abstract ones. -/
mutual
def dv (T : TS S) : TV S → DV
  | .bool b => .bool b
  | .int k n => .int k n
  | .str s => .str s
  | .nilp => .nilp
  | .ptr id off => .ptr id off
  | .ap id base i esz off => .ptr id (base + i * esz + off)
  | .rptr id v i esz off => .rptr id v i esz off
  | .pub cs => .pub (dvs T cs)
  | .nils => .nils
  | .sl0 => .sl []
  | .sl t xs => .sl (xs.map (dcl T t))
  | .rs id v => .rs id v
  | .arr _ _ _ => .nilp
  | .stc _ _ => .nilp
  | .agg cs => .agg (dvs T cs)
  | .tup vs => .tup (dvl T vs)
  | .fn f a c => .fn f (dvl T a) (dvl T c)
  | .nilfn => .nilfn
  | .map id => .map id
  | .nilmap => .nilmap
  | .iface t v => .iface t (dv T v)
  | .nilif => .nilif
  | .iter id => .iter id
  | .yld id => .yld id
/-- Cells: an array among them stands for all of its own. -/
def dvs (T : TS S) : List (TV S) → List DV
  | [] => []
  | .arr t n a :: cs => acl T t n a ++ dvs T cs
  | .stc i x :: cs => T.dcells i x ++ dvs T cs
  | c :: cs => dv T c :: dvs T cs
def dvl (T : TS S) : List (TV S) → List DV
  | [] => []
  | c :: cs => dv T c :: dvl T cs
end

/-! Reading plain values off cells. -/
def asSl (t : Ty) : TV S → Option (List (Val S t))
  | .sl0 => some []
  | .sl t' xs => if h : t' = t then some (h ▸ xs) else none
  | _ => none

def rdBool : List (TV S) → Option (Bool × List (TV S))
  | .bool b :: r => some (b, r)
  | _ => none
def rdInt (k : IntKind) : List (TV S) → Option (Int × List (TV S))
  | .int k' n :: r => bif k == k' then some (n, r) else none
  | _ => none
def rdStr : List (TV S) → Option (ByteArray × List (TV S))
  | .str s :: r => some (s, r)
  | _ => none
def rdSl (t : Ty) : List (TV S) → Option (List (Val S t) × List (TV S))
  | c :: r => (asSl t c).bind fun xs => some (xs, r)
  | _ => none
def rdArr (n : Nat) (t : Ty) : List (TV S) → Option ((Nat → Val S t) × List (TV S))
  | .arr t' n' a :: r => if h : t' = t then (bif Nat.beq n' n then some (h ▸ a, r) else none) else none
  | _ => none
/-- A struct: whole, or read off its cells. -/
def rdW (i : Nat) (f : List (TV S) → Option (S i × List (TV S))) : List (TV S) → Option (S i × List (TV S))
  | .stc i' x :: r => if h : i' = i then some (h ▸ x, r) else none
  | cs => f cs
/-- A struct of another name that lies ahead, by its cells. -/
def ahead (T : TS S) (i : Nat) : Nat → List (TV S) → List (TV S)
  | n + 1, .stc i' x :: r => bif Nat.beq i' i then .stc i' x :: r else ahead T i n (T.cells i' x ++ r)
  | _, cs => cs
def trd (T : TS S) : (t : Ty) → List (TV S) → Option (Val S t × List (TV S))
  | .bool => rdBool
  | .int k => rdInt k
  | .str => rdStr
  | .sl t => rdSl t
  | .arr n t => rdArr n t
  | .st i => fun cs => rdW i (T.rd i) (ahead T i 6 cs)

/-- Of frozen cells. -/
def tdec (T : TS S) (t : Ty) (cs : List (TV S)) : Option (Val S t) := (trd T t cs).bind fun x => match x.2 with
  | [] => some x.1
  | _ => none

def cellsT : TV S → List (TV S)
  | .agg cs => cs
  | .arr _ _ _ => [.nilp]
  | .stc _ _ => [.nilp]
  | v => [v]

def isCellT : TV S → Bool
  | .agg _ | .tup _ => false
  | _ => true

def isArrT : TV S → Bool
  | .arr _ _ _ => true
  | .stc _ _ => true
  | _ => false

def tdecV (T : TS S) (t : Ty) (v : TV S) : Option (Val S t) := match v with
  | .agg cs => bif isAggT t then tdec T t cs else none
  | v => bif isAggT t then none else tdec T t [v]

def wd (T : TS S) : TV S → Nat
  | .arr t n _ => n * tsz T t
  | .stc i _ => T.size i
  | _ => 1

def wds (T : TS S) : List (TV S) → Nat
  | [] => 0
  | c :: cs => wd T c + wds T cs

def dropF (T : TS S) : Nat → List (TV S) → Nat → Option (List (TV S))
  | 0, _, _ => none
  | _ + 1, [], n => bif Nat.beq n 0 then some [] else none
  | f + 1, c :: cs, n => bif Nat.beq n 0 then some (c :: cs) else bif Nat.ble (wd T c) n then dropF T f cs (n - wd T c) else match c with
    | .stc i x => dropF T f (T.cells i x ++ cs) n
    | _ => none
def dropW (T : TS S) (cs : List (TV S)) (n : Nat) : Option (List (TV S)) := dropF T 400 cs n

def takeF (T : TS S) : Nat → List (TV S) → Nat → Option (List (TV S))
  | 0, _, _ => none
  | _ + 1, [], n => bif Nat.beq n 0 then some [] else none
  | f + 1, c :: cs, n => bif Nat.beq n 0 then some [] else bif Nat.ble (wd T c) n then (takeF T f cs (n - wd T c)).bind fun r => some (c :: r) else match c with
    | .stc i x => takeF T f (T.cells i x ++ cs) n
    | _ => none
def takeW (T : TS S) (cs : List (TV S)) (n : Nat) : Option (List (TV S)) := takeF T 400 cs n

/-- The first cell, structs taken apart. -/
def hdF (T : TS S) : Nat → List (TV S) → List (TV S)
  | n + 1, .stc i x :: r => hdF T n (T.cells i x ++ r)
  | _, cs => cs
/-- All structs taken apart. -/
def xpF (T : TS S) : Nat → List (TV S) → List (TV S)
  | n + 1, .stc i x :: r => xpF T n (T.cells i x ++ r)
  | n + 1, c :: r => c :: xpF T n r
  | _, cs => cs

def spliceW (T : TS S) (cs : List (TV S)) (off : Nat) (vs : List (TV S)) : Option (List (TV S)) :=
  (takeW T cs off).bind fun a => (dropW T cs (off + wds T vs)).bind fun b => some (a ++ vs ++ b)

def partT (T : TS S) (ti : TI) (cs : List (TV S)) (off : Nat) : Option (TV S) :=
  (dropW T cs off).bind fun r => bif ti.isAgg then (takeW T r ti.size).bind fun p => some (.agg p) else match hdF T 10 r with
    | c :: _ => bif isArrT c then none else some c
    | [] => none

/-- The tables: types and functions; the plain types by their numbers; what a new variable holds. -/
structure TEnv (S : Nat → Type) where
  E : Env
  T : TS S
  code : Nat → Option Ty
  zero : Nat → Option (List (TV S))

/-- An object of plain data is told as one whole. -/
def pack1 (X : TEnv S) (t : TypeId) (cs : List (TV S)) : List (TV S) := match X.code t with
  | some c => (match tdec X.T c cs with
    | some x => tcl X.T c x
    | none => cs)
  | none => cs

structure TOut (S : Nat → Type) where
  val : Option (TV S)
  upd : List (Nat × Option (TObj S))

def ofValT : Value → Option (TV S)
  | .bool b => some (.bool b)
  | .int k n => some (.int k n)
  | .string s => some (.str s)
  | .pointer none => some .nilp
  | .slice none 0 0 => some .nils
  | .map none => some .nilmap
  | .nilFunc => some .nilfn
  | .nilIface => some .nilif
  | _ => none

def opndT (ρ : Nat → Option (TV S)) : Operand → Option (TV S)
  | .tmp t => ρ t
  | .const v => ofValT v
  | .func f => some (.fn (.func f) [] [])
  | .global _ => none

def opndsT (ρ : Nat → Option (TV S)) : List Operand → Option (List (TV S))
  | [] => some []
  | x :: xs => (opndT ρ x).bind fun v => (opndsT ρ xs).bind fun vs => some (v :: vs)

mutual
def idfreeT : TV S → Bool
  | .bool _ | .int _ _ | .str _ | .nilp | .nils | .sl0 | .sl _ _ | .nilfn | .nilmap | .nilif => true
  | .arr _ _ _ | .stc _ _ => true
  | .agg cs => idfreesT cs
  | .tup cs => idfreesT cs
  | .fn _ a b => idfreesT a && idfreesT b
  | .iface _ v => idfreeT v
  | _ => false
def idfreesT : List (TV S) → Bool
  | [] => true
  | c :: cs => idfreeT c && idfreesT cs
end

mutual
def bddT (n : Nat) : TV S → Bool
  | .ptr i _ | .ap i _ _ _ _ | .rptr i _ _ _ _ | .rs i _ | .map i | .iter i | .yld i => Nat.blt i n
  | .agg cs => bddsT n cs
  | .tup cs => bddsT n cs
  | .fn _ a b => bddsT n a && bddsT n b
  | .iface _ v => bddT n v
  | .pub cs => bddsT n cs
  | _ => true
def bddsT (n : Nat) : List (TV S) → Bool
  | [] => true
  | c :: cs => bddT n c && bddsT n cs
end

mutual
def frzT (h : Nat → Option (TObj S)) : TV S → Option (TV S)
  | .rs id v => (h id).bind fun | .row _ t xs _ u => bif Nat.beq u v then some (.sl t xs) else none | _ => none
  | .agg cs => (frzsT h cs).bind fun cs => some (.agg cs)
  | .tup cs => (frzsT h cs).bind fun cs => some (.tup cs)
  | .iface t v => (frzT h v).bind fun v => some (.iface t v)
  | .nils => some .sl0
  | d => bif idfreeT d then some d else none
def frzsT (h : Nat → Option (TObj S)) : List (TV S) → Option (List (TV S))
  | [] => some []
  | c :: cs => (frzT h c).bind fun c => (frzsT h cs).bind fun cs => some (c :: cs)
end

mutual
def rowsOfT : TV S → List Nat
  | .rs id _ => [id]
  | .agg cs => rowsOfsT cs
  | .tup cs => rowsOfsT cs
  | .iface _ v => rowsOfT v
  | _ => []
def rowsOfsT : List (TV S) → List Nat
  | [] => []
  | c :: cs => rowsOfT c ++ rowsOfsT cs
end

def showT (h : Nat → Option (TObj S)) : List Nat → List (Nat × Option (TObj S))
  | [] => []
  | i :: is => (match h i with | some (.row e t xs p u) => bif Nat.beq p 1 then [] else [(i, some (.row e t xs 1 u))] | _ => []) ++ showT h is

def liftT : TObj S → TObj S
  | .row e t xs _ u => .row e t xs 1 u
  | o => o

mutual
def idsT : TV S → List Nat
  | .ptr i _ | .ap i _ _ _ _ | .rptr i _ _ _ _ | .rs i _ | .map i | .iter i | .yld i => [i]
  | .agg cs => idssT cs
  | .tup cs => idssT cs
  | .fn _ a b => idssT a ++ idssT b
  | .iface _ v => idsT v
  | _ => []
def idssT : List (TV S) → List Nat
  | [] => []
  | c :: cs => idsT c ++ idssT cs
end

/-! Operations. What comes of them is handed on to 'k'. -/
section ops
variable {R : Type}
abbrev KOut (S : Nat → Type) (R : Type) := TOut S → Option R

def retK (v : TV S) (k : KOut S R) : Option R := k ⟨some v, []⟩

def scalEq : (t : Ty) → Option (Val S t → Val S t → Bool)
  | .bool => some fun (a b : Bool) => a == b
  | .int _ => some fun (a b : Int) => a == b
  | .str => some fun (a b : ByteArray) => a == b
  | _ => none

def eqCellsT : List (TV S) → List (TV S) → Option Bool
  | [], [] => some true
  | .int k a :: xs, .int k' b :: ys => bif k == k' then (eqCellsT xs ys).bind fun r => some (a == b && r) else none
  | .bool a :: xs, .bool b :: ys => (eqCellsT xs ys).bind fun r => some (a == b && r)
  | .str a :: xs, .str b :: ys => (eqCellsT xs ys).bind fun r => some (a == b && r)
  | .arr t n a :: xs, .arr t' n' b :: ys => if h : t' = t then (bif Nat.beq n' n then (scalEq t).bind fun e => (eqCellsT xs ys).bind fun r => some (((List.range n).all fun j => e (a j) ((h ▸ b : Nat → Val S t) j)) && r) else none) else none
  | _, _ => none

def kindsT : List (TV S) → List (TV S) → Bool
  | [], [] => true
  | .int k _ :: zs, .int k' _ :: xs => k == k' && kindsT zs xs
  | .bool _ :: zs, .bool _ :: xs => kindsT zs xs
  | .str _ :: zs, .str _ :: xs => kindsT zs xs
  | .arr t n _ :: zs, .arr t' n' _ :: xs => decide (t' = t) && Nat.beq n' n && (scalEq (S := S) t).isSome && kindsT zs xs
  | _, _ => false

def binK (X : TEnv S) (op : BinOp) (t : TypeId) (x y : TV S) (k : KOut S R) : Option R :=
  match x, y with
  | .int kd a, .int kd' b =>
    match op with
    | .shl => bif decide (b < 0) then none else retK (.int kd (kd.wrap (a * 2 ^ (min b.toNat kd.bits)))) k
    | .shr => bif decide (b < 0) then none else retK (.int kd (a.fdiv (2 ^ (min b.toNat kd.bits)))) k
    | .quo => bif kd == kd' then (bif b == 0 then none else retK (.int kd (kd.wrap (a.tdiv b))) k) else none
    | .rem => bif kd == kd' then (bif b == 0 then none else retK (.int kd (a.tmod b)) k) else none
    | .add => bif kd == kd' then retK (.int kd (kd.wrap (a + b))) k else none
    | .sub => bif kd == kd' then retK (.int kd (kd.wrap (a - b))) k else none
    | .mul => bif kd == kd' then retK (.int kd (kd.wrap (a * b))) k else none
    | .and => bif kd == kd' then retK (.int kd (kd.wrap (BitVec.ofInt kd.bits a &&& BitVec.ofInt kd.bits b).toNat)) k else none
    | .or => bif kd == kd' then retK (.int kd (kd.wrap (BitVec.ofInt kd.bits a ||| BitVec.ofInt kd.bits b).toNat)) k else none
    | .xor => bif kd == kd' then retK (.int kd (kd.wrap (BitVec.ofInt kd.bits a ^^^ BitVec.ofInt kd.bits b).toNat)) k else none
    | .eql => bif kd == kd' then retK (.bool (a == b)) k else none
    | .neq => bif kd == kd' then retK (.bool (a != b)) k else none
    | .lss => bif kd == kd' then retK (.bool (decide (a < b))) k else none
    | .leq => bif kd == kd' then retK (.bool (decide (a ≤ b))) k else none
    | .gtr => bif kd == kd' then retK (.bool (decide (a > b))) k else none
    | .geq => bif kd == kd' then retK (.bool (decide (a ≥ b))) k else none
    | _ => none
  | .str a, .str b =>
    match op with
    | .add => bif Nat.ble (a.size + b.size) 1099511627776 then retK (.str (a ++ b)) k else none
    | .eql => retK (.bool (a.toList == b.toList)) k
    | .neq => retK (.bool (!(a.toList == b.toList))) k
    | .lss => retK (.bool (Op.bytesLess a.toList b.toList)) k
    | .leq => retK (.bool (Op.bytesLess a.toList b.toList || (a.toList == b.toList))) k
    | .gtr => retK (.bool (!(Op.bytesLess a.toList b.toList || (a.toList == b.toList)))) k
    | .geq => retK (.bool (!(Op.bytesLess a.toList b.toList))) k
    | _ => none
  | .bool a, .bool b => (X.E.ty t).bind fun ti => match ti.k, op with
    | .bool, .eql => retK (.bool (a == b)) k
    | .bool, .neq => retK (.bool (!(a == b))) k
    | _, _ => none
  | .agg a, .agg b => (X.E.ty t).bind fun ti => (X.zero t).bind fun z => let z := xpF X.T 200 z; let a := xpF X.T 200 a; let b := xpF X.T 200 b; bif ti.eqOk && kindsT z a && kindsT z b then (match op with
    | .eql => (eqCellsT a b).bind fun r => retK (.bool r) k
    | .neq => (eqCellsT a b).bind fun r => retK (.bool (!r)) k
    | _ => none) else none
  | _, _ => none

def unK (op : UnOp) (x : TV S) (k : KOut S R) : Option R := match x with
  | .int kd n => match op with | .neg => retK (.int kd (kd.wrap (0 - n))) k | _ => none
  | .bool b => match op with | .not => retK (.bool (!b)) k | _ => none
  | _ => none

def idxK (n : Nat) (x : TV S) (k : Nat → Option R) : Option R := match x with
  | .int _ i => bif decide (0 ≤ i) && decide (i < n) then k i.toNat else none
  | _ => none

def pickK (c : Bool) (a b : Option (TV S)) (k : KOut S R) : Option R := match a, b with
  | some (.bool x), some (.bool y) => retK (.bool (bif c then x else y)) k
  | a, b => bif c then a.bind fun v => retK v k else b.bind fun v => retK v k

/-- A slice's elements, as such of a type. -/
def elemsT (t : Ty) (h : Nat → Option (TObj S)) : TV S → Option (List (Val S t))
  | .nils => some []
  | .sl0 => some []
  | .sl t' xs => if e : t' = t then some (e ▸ xs) else none
  | .rs id v => (h id).bind fun | .row _ t' xs _ u => bif Nat.beq u v then (if e : t' = t then some (e ▸ xs) else none) else none | _ => none
  | _ => none

def fillStT (X : TEnv S) (fs : List (Nat × Nat)) : List (Nat × TV S) → List (TV S) → Option (List (TV S))
  | [], cs => some cs
  | (i, v) :: ps, cs => (fs[i]?).bind fun f => (X.E.ty f.1).bind fun ti =>
      bif Nat.beq (wds X.T (cellsT v)) ti.size then (spliceW X.T cs f.2 (cellsT v)).bind fun cs => fillStT X fs ps cs else none

def fillArT (X : TEnv S) (t : Ty) (n : Nat) : List (Nat × TV S) → (Nat → Val S t) → Option (Nat → Val S t)
  | [], a => some a
  | (i, v) :: ps, a => (tdecV X.T t v).bind fun x => bif Nat.blt i n then fillArT X t n ps (fun j => bif Nat.beq j i then x else a j) else none

def partsT (ρ : Nat → Option (TV S)) : List (Nat × Operand) → Option (List (Nat × TV S))
  | [] => some []
  | (i, x) :: ps => (opndT ρ x).bind fun v => (partsT ρ ps).bind fun vs => some ((i, v) :: vs)

def rowsT (X : TEnv S) (h : Nat → Option (TObj S)) (t : Ty) : Nat → List (Nat × TV S) → Option (List (Val S t))
  | _, [] => some []
  | k, (i, v) :: ps => bif Nat.beq i k && Nat.beq (wds X.T (cellsT v)) (tsz X.T t) then (frzsT h (cellsT v)).bind fun c => (tdec X.T t c).bind fun x => (rowsT X h t (k + 1) ps).bind fun r => some (x :: r) else none

def addrT (T : TS S) : TV S → Nat → Option (TV S)
  | .ptr id off, n => some (.ptr id (off + n))
  | .ap id b i e off, n => some (.ap id b i e (off + n))
  | .rptr id v i e off, n => some (.rptr id v i e (off + n))
  | .pub cs, n => (dropW T cs n).bind fun r => some (.pub r)
  | _, _ => none

/-- An array that lies at a place of an object. -/
def arrAt (T : TS S) (cs : List (TV S)) (base : Nat) : Option ((t : Ty) × Nat × (Nat → Val S t)) := (dropW T cs base).bind fun r => match hdF T 10 r with
  | .arr t n a :: _ => some ⟨t, n, a⟩
  | _ => none

def loadK (X : TEnv S) (ti : TI) (h : Nat → Option (TObj S)) (a : TV S) (k : KOut S R) : Option R := match a with
  | .ptr id off => (h id).bind fun | .cells _ cs => (partT X.T ti cs off).bind fun v => retK v k | _ => none
  | .ap id base i e off => (h id).bind fun
    | .cells _ cs => (arrAt X.T cs base).bind fun A => bif Nat.beq e (tsz X.T A.1) then (bif Nat.blt i A.2.1 then (partT X.T ti (tcl X.T A.1 (A.2.2 i)) off).bind fun v => retK v k else none) else none
    | _ => none
  | .rptr id v i e off => (h id).bind fun
    | .row _ t xs _ u => bif Nat.beq u v && Nat.beq (tsz X.T t) e then (bif Nat.blt i xs.length then (partT X.T ti (tcl X.T t (xs.getD i (tdf X.T t))) off).bind fun v => retK v k else none) else none
    | _ => none
  | .pub cs => (partT X.T ti cs 0).bind fun v => retK v k
  | _ => none

def storeK (X : TEnv S) (ti : TI) (h : Nat → Option (TObj S)) (a v : TV S) (k : KOut S R) : Option R :=
  bif Nat.beq (wds X.T (cellsT v)) ti.size && (cellsT v).all isCellT then
    match a with
    | .ptr id off => (h id).bind fun
      | .cells t cs => (spliceW X.T cs off (cellsT v)).bind fun cs => k ⟨some (.tup []), [(id, some (.cells t (pack1 X t cs)))]⟩
      | _ => none
    | .ap id base i e off => (h id).bind fun
      | .cells t cs => (arrAt X.T cs base).bind fun A => bif Nat.beq e (tsz X.T A.1) then (bif Nat.blt i A.2.1 then
          (spliceW X.T (tcl X.T A.1 (A.2.2 i)) off (cellsT v)).bind fun c => (tdec X.T A.1 c).bind fun x =>
          (spliceW X.T cs base [.arr A.1 A.2.1 (fun j => bif Nat.beq j i then x else A.2.2 j)]).bind fun cs => k ⟨some (.tup []), [(id, some (.cells t (pack1 X t cs)))]⟩ else none) else none
      | _ => none
    | .rptr id ver i e off => (h id).bind fun
      | .row et t xs p u => bif Nat.beq u ver && Nat.beq (tsz X.T t) e && Nat.beq p 0 && idfreesT (cellsT v) then (bif Nat.blt i xs.length then
          (spliceW X.T (tcl X.T t (xs.getD i (tdf X.T t))) off (cellsT v)).bind fun c => (tdec X.T t c).bind fun x =>
            k ⟨some (.tup []), [(id, some (.row et t (xs.set i x) p u))]⟩ else none) else none
      | _ => none
    | _ => none
  else none

def min2T : TV S → TV S → Option (TV S)
  | .int k x, .int _ y => some (.int k (bif decide (y < x) then y else x))
  | _, _ => none
def max2T : TV S → TV S → Option (TV S)
  | .int k x, .int _ y => some (.int k (bif decide (y > x) then y else x))
  | _, _ => none
def foldT (f : TV S → TV S → Option (TV S)) : TV S → List (TV S) → Option (TV S)
  | x, [] => some x
  | x, y :: ys => (f x y).bind fun z => foldT f z ys

def lenT (k : TK) (h : Nat → Option (TObj S)) (d : TV S) : Option (TV S) :=
  match k, d with
  | .string, .str s => some (.int .i64 (s.size : Nat))
  | .map _ _, .nilmap => some (.int .i64 0)
  | .map _ _, .map id => (h id).bind fun | .map _ _ m => some (.int .i64 (m.length : Nat)) | _ => none
  | .slice _, .nils => some (.int .i64 0)
  | .slice _, .sl0 => some (.int .i64 0)
  | .slice _, .sl _ xs => some (.int .i64 (xs.length : Nat))
  | .slice _, .rs id v => (h id).bind fun | .row _ _ xs _ u => bif Nat.beq u v then some (.int .i64 (xs.length : Nat)) else none | _ => none
  | .array n _, _ => some (.int .i64 (n : Nat))
  | _, _ => none

def appendK (X : TEnv S) (nid : Nat) (h : Nat → Option (TObj S)) (t : TypeId) (s x : TV S) (k : KOut S R) : Option R :=
  (X.E.ty t).bind fun ti => match ti.k with
  | .slice e => (X.E.ty e).bind fun ei => (X.code e).bind fun te => (elemsT te h x).bind fun xs => bif Nat.blt 0 ei.size && Nat.ble ei.bytes 100000000000 then (match s with
    | .nils => (match xs with
      | [] => retK .nils k
      | y :: ys => bif Nat.ble ((y :: ys).length * (ei.bytes + 1)) 200000000000000 then k ⟨some (.rs nid 0), [(nid, some (.row e te (y :: ys) 0 0))]⟩ else none)
    | .rs id v => (h id).bind fun
      | .row e' te' es p u => bif Nat.beq u v && Nat.beq e' e then (if q : te' = te then (bif Nat.ble ((es.length + xs.length) * (ei.bytes + 1)) 200000000000000 then
          k ⟨some (.rs id (v + 1)), [(id, some (.row e te ((q ▸ es : List (Val S te)) ++ xs) p (v + 1)))]⟩ else none) else none) else none
      | _ => none
    | _ => none) else none
  | _ => none

/-- The value of a key. -/
def mfind {α β : Type} (e : α → α → Bool) (k : α) : List (α × β) → Option β
  | [] => none
  | (k', v) :: m => bif e k k' then some v else mfind e k m
def mput {α β : Type} (e : α → α → Bool) (k : α) (v : β) : List (α × β) → List (α × β)
  | [] => [(k, v)]
  | (k', v') :: m => bif e k k' then (k, v) :: m else (k', v') :: mput e k v m

def boundK (d : Option (TV S)) (dflt y : Nat) (k : Nat → Option R) : Option R := match d with
  | none => k dflt
  | some (.int _ i) => bif decide (0 ≤ i) && decide (i ≤ y) then k i.toNat else none
  | _ => none

def optT (ρ : Nat → Option (TV S)) : Option Operand → Option (Option (TV S))
  | none => some none
  | some x => (opndT ρ x).bind fun v => some (some v)

def keyFitsT : TK → Ty → Bool
  | .int _, .int _ | .string, .str | .bool, .bool => true
  | _, _ => false

def opK (X : TEnv S) (nid : Nat) (ρ : Nat → Option (TV S)) (h : Nat → Option (TObj S)) (op : Op) (k : KOut S R) : Option R :=
  match op with
  | .move x => (opndT ρ x).bind fun v => retK v k
  | .assign x => (opndT ρ x).bind fun v => retK v k
  | .pick c a b => (opndT ρ c).bind fun
    | .bool c => pickK c (opndT ρ a) (opndT ρ b) k
    | _ => none
  | .alloc t => (X.E.ty t).bind fun _ => (X.zero t).bind fun z => k ⟨some (.ptr nid 0), [(nid, some (.cells t (pack1 X t z)))]⟩
  | .box t x => (opndT ρ x).bind fun v => bif (cellsT v).all isCellT then k ⟨some (.ptr nid 0), [(nid, some (.cells t (pack1 X t (cellsT v))))]⟩ else none
  | .build t ps => (X.E.ty t).bind fun ti => (partsT ρ ps.toList).bind fun vs => (X.zero t).bind fun z => match ti.k with
    | .struct fs => (fillStT X fs vs z).bind fun cs => retK (.agg cs) k
    | .array _ e => (X.E.ty e).bind fun _ => (X.code e).bind fun te => (match z with
      | [.arr te' n a] => if q : te' = te then (fillArT X te n vs (q ▸ a)).bind fun a => retK (.agg [.arr te n a]) k else none
      | _ => none)
    | _ => none
  | .buildSlice t n ps => (X.E.ty t).bind fun ti => match ti.k with
    | .slice e => (X.E.ty e).bind fun ei => (X.code e).bind fun te => (partsT ρ ps.toList).bind fun vs => (rowsT X h te 0 vs).bind fun es =>
        bif Nat.beq es.length n && Nat.ble (n * ei.size) 1048576 && Nat.blt 0 ei.size then k ⟨some (.rs nid 0), (nid, some (.row e te es 0 0)) :: showT h (rowsOfsT (vs.map (·.2)))⟩ else none
    | _ => none
  | .load t a => (X.E.ty t).bind fun ti => (opndT ρ a).bind fun a => loadK X ti h a k
  | .store t a x => (X.E.ty t).bind fun ti => (opndT ρ a).bind fun a => (opndT ρ x).bind fun v => storeK X ti h a v k
  | .nilCheck x => (opndT ρ x).bind fun
    | .ptr i o => retK (.ptr i o) k
    | .ap i b j e o => retK (.ap i b j e o) k
    | .rptr i v j e o => retK (.rptr i v j e o) k
    | .pub cs => retK (.pub cs) k
    | _ => none
  | .binOp op t x y _ => (opndT ρ x).bind fun x => (opndT ρ y).bind fun y => binK X op t x y k
  | .unOp op _ x => (opndT ρ x).bind fun x => unK op x k
  | .convert s d x => (X.E.ty s).bind fun _ => (X.E.ty d).bind fun ti => (opndT ρ x).bind fun x => match ti.k, x with
    | .int kd, .int _ n => retK (.int kd (kd.wrap n)) k
    | .string, .str s => retK (.str s) k
    | _, _ => none
  | .makeFunc f a c => (opndsT ρ a.toList).bind fun a => (opndsT ρ c.toList).bind fun c => retK (.fn f a c) k
  | .makeMap t none => (X.E.ty t).bind fun ti => match ti.k with
    | .map kt e => (X.code kt).bind fun kt => (X.code e).bind fun et => k ⟨some (.map nid), [(nid, some (.map kt et []))]⟩
    | _ => none
  | .slice t x lo hi none => (X.E.ty t).bind fun ti => (opndT ρ x).bind fun x => (optT ρ lo).bind fun lo => (optT ρ hi).bind fun hi => match ti.k, x with
    | .string, .str s => boundK hi s.size s.size fun h => boundK lo 0 h fun l => retK (.str (s.extract l h)) k
    | .slice e, d => (X.E.ty e).bind fun ei => (X.code e).bind fun te => (elemsT te h d).bind fun es => bif Nat.blt 0 ei.size then
        boundK hi es.length es.length fun hh => boundK lo 0 hh fun l => k ⟨some (.sl te ((es.take hh).drop l)), showT h (rowsOfT d)⟩ else none
    | _, _ => none
  | .fieldAddr s x f => (X.E.ty s).bind fun ti => (opndT ρ x).bind fun x => match ti.k with
    | .struct fs => (fs[f]?).bind fun f => (X.E.ty f.1).bind fun fi => bif Nat.blt 0 fi.size then (addrT X.T x f.2).bind fun v => retK v k else none
    | _ => none
  | .field s x f => (X.E.ty s).bind fun ti => (opndT ρ x).bind fun x => match ti.k, x with
    | .struct fs, .agg cs => (fs[f]?).bind fun f => (X.E.ty f.1).bind fun fi => (partT X.T fi cs f.2).bind fun v => retK v k
    | _, _ => none
  | .indexAddr t x i => (X.E.ty t).bind fun ti => (opndT ρ x).bind fun x => (opndT ρ i).bind fun i => match ti.k with
    | .array len e => (X.E.ty e).bind fun ei => (match x with
      | .ptr id o => idxK len i fun i => bif Nat.blt 0 len then retK (.ap id o i ei.size 0) k else none
      | .pub cs => (match hdF X.T 10 cs with
       | .arr t n a :: cs => bif Nat.beq n len && Nat.beq (tsz X.T t) ei.size then idxK len i fun i => retK (.pub (tcl X.T t (a i) ++ .arr t (n - (i + 1)) (fun m => a (i + 1 + m)) :: cs)) k else none
       | _ => none)
      | _ => none)
    | .slice e => (X.E.ty e).bind fun ei => (match x with
      | .sl te xs => bif Nat.beq (tsz X.T te) ei.size && Nat.blt 0 ei.size then idxK xs.length i fun i => retK (.pub (tcl X.T te (xs.getD i (tdf X.T te)))) k else none
      | .rs id v => (h id).bind fun
        | .row _ _ xs _ u => bif Nat.beq u v && Nat.blt 0 ei.size then idxK xs.length i fun i => retK (.rptr id v i ei.size 0) k else none
        | _ => none
      | _ => none)
    | _ => none
  | .index t x i => (X.E.ty t).bind fun ti => (opndT ρ x).bind fun x => (opndT ρ i).bind fun i => match ti.k, x with
    | .array len e, .agg [.arr te n a] => (X.E.ty e).bind fun ei => bif Nat.beq n len && Nat.beq (tsz X.T te) ei.size && (ei.isAgg == isAggT te) then idxK len i fun i => retK (tval X.T te (a i)) k else none
    | .string, .str s => idxK s.size i fun i => retK (.int .u8 (s.toList.getD i 0).toNat) k
    | _, _ => none
  | .lookup t m kx ok => (X.E.ty t).bind fun ti => (opndT ρ m).bind fun m => (opndT ρ kx).bind fun kv => match ti.k, m with
    | .map kt e, .map id => (X.E.ty e).bind fun ei => (X.E.ty kt).bind fun ki => (X.zero e).bind fun z => (h id).bind fun
      | .map kc ec es => bif keyFitsT ki.k kc && Nat.beq ei.size 1 && !ei.isAgg && !isAggT ec then (tdecV X.T kc kv).bind fun key => (tdec X.T ec z).bind fun zv => (scalEq kc).bind fun eq =>
          retK (bif ok then .tup [tval X.T ec ((mfind eq key es).getD zv), .bool (mfind eq key es).isSome] else tval X.T ec ((mfind eq key es).getD zv)) k else none
      | _ => none
    | _, _ => none
  | .mapUpdate t m kx v => (X.E.ty t).bind fun ti => (opndT ρ m).bind fun m => (opndT ρ kx).bind fun kv => (opndT ρ v).bind fun v => match ti.k, m with
    | .map kt _, .map id => (X.E.ty kt).bind fun ki => (h id).bind fun
      | .map kc ec es => bif keyFitsT ki.k kc && !isAggT ec then (tdecV X.T kc kv).bind fun key => (scalEq (S := S) ec).bind fun _ => (tdecV X.T ec v).bind fun x => (scalEq kc).bind fun eq =>
          k ⟨some (.tup []), [(id, some (.map kc ec (mput eq key x es)))]⟩ else none
      | _ => none
    | _, _ => none
  | .range t x => (X.E.ty t).bind fun ti => (opndT ρ x).bind fun x => match ti.k, x with
    | .string, .str s => k ⟨some (.iter nid), [(nid, some (.siter s 0))]⟩
    | _, _ => none
  | .next it true => (opndT ρ it).bind fun
    | .iter id => (h id).bind fun
      | .siter s pos => bif decide (pos < s.size) then
          k ⟨some (.tup [.bool true, .int .i64 (pos : Nat), .int .i32 (Utf8.decode s pos).1]), [(id, some (.siter s (pos + (Utf8.decode s pos).2)))]⟩
        else retK (.tup [.bool false]) k
      | _ => none
    | _ => none
  | .extract t i => (opndT ρ t).bind fun
    | .tup vs => (vs[i]?).bind fun v => retK v k
    | _ => none
  | .call c => match c.callee with
    | .builtin .len => (match c.args.toList, c.argTypes.toList with
      | [x], t :: _ => (X.E.ty t).bind fun ti => (opndT ρ x).bind fun x => (lenT ti.k h x).bind fun v => retK v k
      | _, _ => none)
    | .builtin .append => (match c.args.toList, c.argTypes.toList with
      | [s, x], [t, t'] => bif Nat.beq t t' then (opndT ρ s).bind fun s => (opndT ρ x).bind fun x => appendK X nid h t s x k else none
      | _, _ => none)
    | .builtin .min => (opndsT ρ c.args.toList).bind fun vs => (match vs with | x :: xs => (foldT min2T x xs).bind fun v => retK v k | [] => none)
    | .builtin .max => (opndsT ρ c.args.toList).bind fun vs => (match vs with | x :: xs => (foldT max2T x xs).bind fun v => retK v k | [] => none)
    | _ => none
  | _ => none

def targetT (ρ : Nat → Option (TV S)) (c : Call) : Option (TV S × List (TV S)) :=
  match c.callee with
  | .value f => (opndT ρ f).bind fun
    | .fn (.func g) first caps => (opndsT ρ c.args.toList).bind fun as => some (.fn (.func g) [] [], first ++ as ++ caps)
    | .yld id => (opndsT ρ c.args.toList).bind fun as => some (.yld id, as)
    | _ => none
  | _ => none

def purTT (E : Env) : TV S × List (TV S) → Bool
  | (.fn (.func g) _ _, _) => match E.fn g with
    | some F => F.pur
    | none => false
  | _ => false

/-- What calls of plain values come to. -/
abbrev Specs (S : Nat → Type) (R : Type) := Nat → List (TV S) → (TV S → Option R) → Option R

def callK (cs : Specs S R) (h : Nat → Option (TObj S)) (tgt : TV S × List (TV S)) (k : KOut S R) : Option R := match tgt with
  | (.fn (.func g) _ _, as) => (frzsT h as).bind fun fs => cs g fs fun r => k ⟨some r, showT h (rowsOfsT as)⟩
  | _ => none

/-- An operation; 'ki': a call on the heap itself. -/
def stepK (X : TEnv S) (cs : Specs S R) (nid : Nat) (ρ : Nat → Option (TV S)) (h : Nat → Option (TObj S)) (op : Op) (k : KOut S R) (ki : TV S × List (TV S) → Option R) : Option R :=
  match isCall op with
  | none => opK X nid ρ h op k
  | some c => (targetT ρ c).bind fun tgt => bif purTT X.E tgt then callK cs h tgt k else ki tgt

/-! Regions -/
structure StT (S : Nat → Type) where
  base : Tr (TV S)
  objs : Tr (TObj S)
  next : Nat

structure MidT (S : Nat → Type) where
  base : Tr (TV S)
  loc : List (Nat × Option (TV S))
  objs : Tr (TObj S)
  next : Nat

def findT (l : List (Nat × Option (TV S))) (t : Nat) : Option (Option (TV S)) := match l with
  | [] => none
  | (s, v) :: l => bif Nat.beq s t then some v else findT l t

def slotT (V : Nat) (base : Tr (TV S)) (loc : List (Nat × Option (TV S))) (t : Nat) : Option (TV S) :=
  bif Nat.testBit V t then base.get t else (match findT loc t with | some v => v | none => none)

def updT (o : Tr (TObj S)) : List (Nat × Option (TObj S)) → Tr (TObj S)
  | [] => o
  | (i, x) :: us => updT (o.set i x) us

def MidT.put (V nt : Nat) (m : MidT S) (dst : Option Tmp) (v : Option (TV S)) : MidT S :=
  match dst with
  | none => m
  | some d => bif !Nat.blt d nt then m else bif Nat.testBit V d then { m with base := m.base.set d v } else { m with loc := (d, v) :: m.loc }

/-- Bools that are known on this road. -/
def knF (kn : List (Nat × Bool)) (t : Nat) : Option Bool := match kn with
  | [] => none
  | (s, b) :: l => bif Nat.beq s t then some b else knF l t
def knDel (kn : List (Nat × Bool)) (dst : Option Tmp) : List (Nat × Bool) := match dst with
  | none => kn
  | some d => kn.filter fun p => !Nat.beq p.1 d
def ovK (kn : List (Nat × Bool)) (t : Nat) (v : Option (TV S)) : Option (TV S) := match kn with
  | [] => v
  | _ => match v with
    | some (.bool b) => (match knF kn t with | some b0 => some (.bool b0) | none => some (.bool b))
    | v => v

/-- Is an operation wanted? The road is parted where that is open. -/
def wantK (ops : Array Oper) (ρ : Nat → Option (TV S)) (o : Oper) (kn : List (Nat × Bool)) (f : Bool → List (Nat × Bool) → Option R) : Option R :=
  match o.guard with
  | none => f true kn
  | some (j, want) => match (ops[j]?).bind (·.dst) with
    | some t => (match ρ t with
      | some (.bool b) => bif b then f (true == want) ((t, true) :: kn) else f (false == want) ((t, false) :: kn)
      | some _ => f false kn
      | none => none)
    | none => none

abbrev CallHT (S : Nat → Type) (R : Type) := List Nat → Nat → List (TV S) → Tr (TObj S) → Nat → (TV S → Tr (TObj S) → Nat → Option R) → Option R

def impK (callH callY : CallHT S R) (path : List Nat) (V nt : Nat) (m : MidT S) (dst : Option Tmp) (tgt : TV S × List (TV S)) (k : MidT S → Option R) : Option R := match tgt with
  | (.fn (.func g) _ _, as) => callH path g as m.objs m.next fun v o n => k ({ m with objs := o, next := n }.put V nt dst (some v))
  | (.yld id, as) => callY path id as m.objs m.next fun v o n => k ({ m with objs := o, next := n }.put V nt dst (some v))
  | _ => none

def seqK (X : TEnv S) (cs : Specs S R) (callH callY : CallHT S R) (path : List Nat) (V nt : Nat) (ops : Array Oper) (b : Nat) : Nat → List Oper → List (Nat × Bool) → MidT S → (MidT S → Option R) → Option R
  | _, [], _, m, kk => kk m
  | k, o :: os, kn, m, kk =>
    wantK ops (fun t => ovK kn t (slotT V m.base m.loc t)) o kn fun want kn => bif want then
      stepK X cs (b + k) (fun t => ovK kn t (slotT V m.base m.loc t)) m.objs.get o.op
        (fun r => seqK X cs callH callY path V nt ops b (k + 1) os (knDel kn o.dst) ({ m with objs := updT m.objs r.upd }.put V nt o.dst r.val) kk)
        (fun tgt => impK callH callY (k :: path) V nt m o.dst tgt fun m => seqK X cs callH callY path V nt ops b (k + 1) os (knDel kn o.dst) m kk)
    else seqK X cs callH callY path V nt ops b (k + 1) os (knDel kn o.dst) (m.put V nt o.dst (some (.tup []))) kk

structure DoneT (S : Nat → Type) where
  dst : Option Tmp
  anc : Nat
  touch : List Nat
  out : TOut S

def touchT (ρ : Nat → Option (TV S)) (op : Op) : List Nat := op.operands.toList.flatMap fun x => match opndT ρ x with | some d => idsT d | none => []

def seenT (anc : Nat) (ρ : Nat → Option (TV S)) : List (Nat × DoneT S) → Nat → Option (TV S)
  | [], t => ρ t
  | (j, d) :: ds, t => bif (match d.dst with | some s => Nat.beq s t | none => false) then (bif Nat.testBit anc j then d.out.val else none) else seenT anc ρ ds t

def updFT (id : Nat) : List (Nat × Option (TObj S)) → Option (Option (TObj S))
  | [] => none
  | (i, x) :: us => match updFT id us with
    | some y => some y
    | none => bif Nat.beq i id then some x else none

def seenHT (anc : Nat) (h : Nat → Option (TObj S)) : List (Nat × DoneT S) → Nat → Option (TObj S)
  | [], id => h id
  | (j, d) :: ds, id => match updFT id d.out.upd with
    | some x => bif Nat.testBit anc j then x else none
    | none => seenHT anc h ds id

def ancT (ops : Array Oper) (ds : List (Nat × DoneT S)) (o : Oper) (k : Nat) : Nat :=
  o.after.toList.foldl (fun m e => bif Region.binds .any e && Nat.blt e.on k then m ||| (1 <<< e.on) ||| ((ds.find? (fun d => Nat.beq d.1 e.on)).map (·.2.anc)).getD 0 else m) 0

def putAllT (V nt : Nat) : List (Nat × DoneT S) → MidT S → MidT S
  | [], m => m
  | (_, d) :: ds, m => let m := putAllT V nt ds m; { m with objs := updT m.objs d.out.upd }.put V nt d.dst d.out.val

def drawK (X : TEnv S) (cs : Specs S R) (callH callY : CallHT S R) (path : List Nat) (V nt : Nat) (ops : Array Oper) (b : Nat) : Nat → List Oper → List (Nat × Bool) → MidT S → Nat → List (Nat × DoneT S) → (MidT S → Option R) → Option R
  | _, [], _, m, _, ds, kk => kk (putAllT V nt ds m)
  | k, o :: os, kn, m, c, ds, kk =>
    let anc := ancT ops ds o k
    let ρ0 := seenT anc (slotT V m.base m.loc) ds
    let h := seenHT anc m.objs.get ds
    bif o.after.all (fun e => !Region.binds .any e || Nat.blt e.on k) && (match o.dst with | none => true | some t => Nat.blt t nt) && (Nat.beq c 0 || Nat.testBit anc (c - 1)) && ds.all (fun d => Nat.testBit anc d.1 || (match o.dst with
        | none => true
        | some t => !((ops.getD d.1 o).looksAt ops).contains t && !(match d.2.dst with | some s => Nat.beq s t | none => false))) then
      wantK ops (fun t => ovK kn t (ρ0 t)) o kn fun want kn =>
        let ρ := fun t => ovK kn t (ρ0 t)
        bif want then
          stepK X cs (b + k) ρ h o.op
            (fun r => bif r.upd.all (fun u => ds.all (fun d => Nat.testBit anc d.1 || !d.2.touch.contains u.1 && (updFT u.1 d.2.out.upd).isNone)) then
              drawK X cs callH callY path V nt ops b (k + 1) os (knDel kn o.dst) m c ((k, ⟨o.dst, anc, touchT ρ o.op, r⟩) :: ds) kk
            else none)
            (fun _ => bif ds.all (fun d => Nat.testBit anc d.1) then
                let m := putAllT V nt ds m
                (isCall o.op).bind fun cl => (targetT (slotT V m.base m.loc) cl).bind fun tgt => impK callH callY (k :: path) V nt m o.dst tgt fun m => drawK X cs callH callY path V nt ops b (k + 1) os [] m (k + 1) [] kk
              else none)
        else drawK X cs callH callY path V nt ops b (k + 1) os (knDel kn o.dst) m c ((k, ⟨o.dst, anc, [], ⟨some (.tup []), []⟩⟩) :: ds) kk
    else none

/-! A state, made out in full before it is handed on (it stays the same; it saves work). -/
section strict
variable {α β : Type}
def sN (n : Nat) (k : Nat → α) : α := match n with
  | 0 => k 0
  | m + 1 => k (m + 1)

mutual
def sV : TV S → (TV S → α) → α
  | .ptr i o, k => sN i fun i => sN o fun o => k (.ptr i o)
  | .ap i b j e o, k => sN i fun i => sN b fun b => sN e fun e => sN o fun o => k (.ap i b j e o)
  | .rptr i v j e o, k => sN i fun i => sN v fun v => sN e fun e => sN o fun o => k (.rptr i v j e o)
  | .pub cs, k => sVs cs fun cs => k (.pub cs)
  | .rs i v, k => sN i fun i => sN v fun v => k (.rs i v)
  | .agg cs, k => sVs cs fun cs => k (.agg cs)
  | .tup cs, k => sVs cs fun cs => k (.tup cs)
  | .fn f a c, k => sVs a fun a => sVs c fun c => k (.fn f a c)
  | .map i, k => sN i fun i => k (.map i)
  | .iface t v, k => sV v fun v => k (.iface t v)
  | .iter i, k => sN i fun i => k (.iter i)
  | .yld i, k => sN i fun i => k (.yld i)
  | .bool b, k => k (.bool b)
  | .int d n, k => k (.int d n)
  | .str b, k => k (.str b)
  | .nilp, k => k .nilp
  | .nils, k => k .nils
  | .sl0, k => k .sl0
  | .sl t xs, k => k (.sl t xs)
  | .arr t n a, k => k (.arr t n a)
  | .stc i x, k => k (.stc i x)
  | .nilfn, k => k .nilfn
  | .nilmap, k => k .nilmap
  | .nilif, k => k .nilif
def sVs : List (TV S) → (List (TV S) → α) → α
  | [], k => k []
  | c :: cs, k => sV c fun c => sVs cs fun cs => k (c :: cs)
end

def sTr (f : β → (β → α) → α) : Tr β → (Tr β → α) → α
  | .leaf, k => k .leaf
  | .node l v r, k => sTr f l fun l => (match v with
    | none => sTr f r fun r => k (.node l none r)
    | some x => f x fun x => sTr f r fun r => k (.node l (some x) r))

def sO : TObj S → (TObj S → α) → α
  | .cells t cs, k => sVs cs fun cs => k (.cells t cs)
  | .row e t xs p v, k => sN v fun v => k (.row e t xs p v)
  | .map a b m, k => k (.map a b m)
  | .siter s p, k => k (.siter s p)
  | .loop f b ps as bo bid ex pa po, k => sTr sV b fun b => k (.loop f b ps as bo bid ex pa po)

def sSt (s : StT S) (k : StT S → α) : α := sTr sV s.base fun b => sTr sO s.objs fun o => sN s.next fun n => k ⟨b, o, n⟩
end strict

def regionK (X : TEnv S) (cs : Specs S R) (callH callY : CallHT S R) (path : List Nat) (V nt : Nat) (ops : Array Oper) (draw : Bool) (s : StT S) (kk : StT S → Option R) : Option R :=
  bif draw then drawK X cs callH callY path V nt ops s.next 0 ops.toList [] ⟨s.base, [], s.objs, s.next + ops.size⟩ 0 [] fun m => sSt ⟨m.base, m.objs, m.next⟩ kk
  else seqK X cs callH callY path V nt ops s.next 0 ops.toList [] ⟨s.base, [], s.objs, s.next + ops.size⟩ fun m => sSt ⟨m.base, m.objs, m.next⟩ kk

/-! The head of a loop -/
/-- What kind of cell lies ahead; none, if that is not told. -/
def cellAt (T : TS S) (cs : List (TV S)) (off : Nat) : Option (Option (TV S)) := (dropW T cs off).bind fun
  | [] => some none
  | c :: _ => bif isArrT c then (bif Nat.blt 0 (wd T c) then some (some (.bool false)) else none) else some (some c)

def accT (T : TS S) (o : Tr (TObj S)) (b0 : Tr (TV S)) : Acc → Option (Option (Nat × Nat))
  | .slot t _ => (match b0.get t with
    | some (.rs id v) => some (some (id, v))
    | _ => some none)
  | .cell t off _ => (match b0.get t with
    | some (.ptr q 0) => (match o.get q with
      | some (.cells _ cs) => (cellAt T cs off).bind fun
        | some (.rs id v) => some (some (id, v))
        | _ => some none
      | _ => some none)
    | some (.ap _ _ _ _ _) => none
    | _ => some none)

def accsT (T : TS S) (o : Tr (TObj S)) (b0 : Tr (TV S)) : List Acc → Option (List (Option (Nat × Nat)))
  | [] => some []
  | a :: as => (accT T o b0 a).bind fun x => (accsT T o b0 as).bind fun xs => some (x :: xs)

mutual
def renT (n0 : Nat) (L : List (Option (Nat × Nat))) : TV S → Option (TV S)
  | .rs id v => match findJ id v 0 L with
    | some j => some (.rs (n0 + j) 0)
    | none => bif Nat.blt id n0 && !moved id L then some (.rs id v) else none
  | .agg cs => (rensT n0 L cs).bind fun cs => some (.agg cs)
  | .tup cs => (rensT n0 L cs).bind fun cs => some (.tup cs)
  | d => bif bddT n0 d then some d else none
def rensT (n0 : Nat) (L : List (Option (Nat × Nat))) : List (TV S) → Option (List (TV S))
  | [] => some []
  | c :: cs => (renT n0 L c).bind fun c => (rensT n0 L cs).bind fun cs => some (c :: cs)
end

def renOT (n0 : Nat) (L : List (Option (Nat × Nat))) : TObj S → Option (TObj S)
  | .cells t cs => (rensT n0 L cs).bind fun cs => some (.cells t cs)
  | .loop fid b ps as bo bid ex pa po => (b.tm (fun _ d => (renT n0 L d).bind fun d => some (some d)) 1 0).bind fun b => some (.loop fid b ps as bo bid ex pa po)
  | o => some o

def addRowsT (o : Tr (TObj S)) (n0 : Nat) : Nat → List (Option (Nat × Nat)) → Tr (TObj S) → Option (Tr (TObj S))
  | _, [], no => some no
  | j, none :: l, no => addRowsT o n0 (j + 1) l no
  | j, some (id, v) :: l, no => (match o.get id with
    | some (.row e t es p u) => bif Nat.beq u v then addRowsT o n0 (j + 1) l (no.set (n0 + j) (some (.row e t es p 0))) else none
    | _ => none)

def nilRowsT (X : TEnv S) (n0 : Nat) : Nat → List Acc → Tr (TV S) × Tr (TObj S) → Option (Tr (TV S) × Tr (TObj S))
  | _, [], r => some r
  | j, .slot t e :: as, (b, no) => (match b.get t with
    | some .nils => (X.E.ty e).bind fun ei => (X.code e).bind fun te => bif Nat.blt 0 ei.size && (no.get (n0 + j)).isNone then nilRowsT X n0 (j + 1) as (b.set t (some (.rs (n0 + j) 0)), no.set (n0 + j) (some (.row e te [] 0 0))) else none
    | _ => nilRowsT X n0 (j + 1) as (b, no))
  | j, .cell t off e :: as, (b, no) => (match b.get t with
    | some (.ptr q 0) => (match no.get q with
      | some (.cells ct cs) => (cellAt X.T cs off).bind fun
        | some .nils => (X.E.ty e).bind fun ei => (X.code e).bind fun te => (spliceW X.T cs off [.rs (n0 + j) 0]).bind fun cs => bif Nat.blt 0 ei.size && (no.get (n0 + j)).isNone then nilRowsT X n0 (j + 1) as (b, (no.set q (some (.cells ct cs))).set (n0 + j) (some (.row e te [] 0 0))) else none
        | _ => nilRowsT X n0 (j + 1) as (b, no)
      | _ => nilRowsT X n0 (j + 1) as (b, no))
    | some (.ap _ _ _ _ _) => none
    | _ => nilRowsT X n0 (j + 1) as (b, no))

mutual
def refsT : TV S → List (Nat × Nat)
  | .rs id v => [(id, v)]
  | .agg cs => refsTs cs
  | .tup cs => refsTs cs
  | .fn _ a b => refsTs a ++ refsTs b
  | .iface _ v => refsT v
  | _ => []
def refsTs : List (TV S) → List (Nat × Nat)
  | [] => []
  | c :: cs => refsT c ++ refsTs cs
end

def refsOT : TObj S → List (Nat × Nat)
  | .cells _ cs => refsTs cs
  | .loop _ b _ _ _ _ _ _ _ => (b.ents 1 0).flatMap fun p => refsT p.2
  | _ => []

def rowNowT (o : Nat → Option (TObj S)) (p : Nat × Nat) : Bool := match o p.1 with
  | some (.row _ _ _ _ u) => Nat.beq u p.2
  | _ => false

def extraT (o : Tr (TObj S)) (b : Tr (TV S)) (n0 keep : Nat) (A : List (Option (Nat × Nat))) : List (Nat × Nat) :=
  addRefs (rowNowT o.get) A (((o.ents 1 0).flatMap fun p => bif Nat.blt p.1 n0 then refsOT p.2 else []) ++ ((b.ents 1 0).flatMap fun p => bif Nat.testBit keep p.1 then refsT p.2 else [])) []

def norm0T (X : TEnv S) (hint : Hint) (n0 : Nat) (s : StT S) : Option (StT S) :=
  (accsT X.T s.objs s.base hint.accs).bind fun A =>
  let XL := extraT s.objs s.base n0 hint.keep A
  let L := XL.map some ++ A
  bif uniq L then
    (s.base.tm (fun t d => bif Nat.testBit hint.keep t then (renT n0 L d).bind fun d => some (some d) else some none) 1 0).bind fun b =>
    (s.objs.tm (fun i x => bif Nat.blt i n0 && !moved i L then (renOT n0 L x).bind fun x => some (some x) else some none) 1 0).bind fun o =>
    (addRowsT s.objs n0 0 L o).bind fun o => (nilRowsT X n0 XL.length hint.accs (b, o)).bind fun r => some ⟨r.1, r.2, n0 + XL.length + hint.accs.length⟩
  else none

def normT (X : TEnv S) (hint : Hint) (n0 : Nat) (s : StT S) : Option (StT S) :=
  (norm0T X hint n0 s).bind fun s => some (bif hint.raw then s else { s with objs := s.objs.mapv liftT })

/-! Code -/
def inRoundT (rnd : Option Nat) (h : Nat → Option (TObj S)) : Bool := match rnd with
  | none => true
  | some l => (match h l with | some (.loop ..) => true | _ => false)

def StT.keep (m : Nat) (s : StT S) : StT S := { s with base := s.base.filt m 1 0 }
def StT.keepX (F : FI) (id : Nat) (s : StT S) : StT S := match F.xm.find? fun p => Nat.beq p.1 id with
  | some p => s.keep p.2
  | none => s

/-- The code at a place (the last step first). -/
def Code.kid : Code → Nat → Option Code
  | .seq x _, 0 => some x
  | .seq _ y, 1 => some y
  | .cond _ x _, 0 => some x
  | .cond _ _ y, 1 => some y
  | .block _ c, 0 => some c
  | .loop c, 0 => some c
  | .scope c, 0 => some c
  | .rangeFunc _ _ a _, 0 => some a
  | .rangeFunc _ _ _ b, 1 => some b
  | _, _ => none
def Code.sub (c : Code) : List Nat → Option Code
  | [] => some c
  | i :: p => (Code.sub c p).bind fun d => Code.kid d i

/-- Where a loop stands. -/
structure Key where
  path : List Nat
  fid : Nat
  rnd : Option Nat
  pos : List Nat
  bid : Nat
  n0 : Nat

/-- What loops come to. -/
abbrev Loops (S : Nat → Type) (R : Type) := Key → StT S → (Ex → StT S → Option R) → Option R

def codeK (X : TEnv S) (cs : Specs S R) (ls : Loops S R) (rnd : Option Nat) (fid : Nat) (F : FI) (callH callY : CallHT S R) (path : List Nat) : List Nat → Nat → Code → StT S → (Ex → StT S → Option R) → Option R
  | _, _, .skip, s, k => k .normal s
  | _, _, .region id ops draw, s, k => regionK X cs callH callY (id :: path) F.vmask F.nt ops draw s fun s => k .normal s
  | pos, bid, .seq x y, s, k => codeK X cs ls rnd fid F callH callY path (0 :: pos) bid x s fun ex s => match ex with
    | .normal => codeK X cs ls rnd fid F callH callY path (1 :: pos) bid y s k
    | _ => k ex s
  | pos, bid, .cond c x y, s, k => (match opndT s.base.get c with
    | some (.bool t) => bif t then codeK X cs ls rnd fid F callH callY path (0 :: pos) bid x s k else codeK X cs ls rnd fid F callH callY path (1 :: pos) bid y s k
    | _ => none)
  | pos, _, .block id c, s, k => codeK X cs ls rnd fid F callH callY path (0 :: pos) id c s fun ex s => match ex with
    | .exit i => bif Nat.beq i id then k .normal s else k ex s
    | _ => k ex s
  | pos, bid, .loop _, s, k => (F.hints.find? fun h => Nat.beq h.bid bid).bind fun hint => (normT X hint s.next s).bind fun s1 => ls ⟨path, fid, rnd, 0 :: pos, bid, s.next⟩ s1 k
  | _, _, .exit id, s, k => k (.exit id) (s.keepX F id)
  | pos, bid, .scope c, s, k => codeK X cs ls rnd fid F callH callY path (0 :: pos) bid c s k
  | _, _, .label _, s, k => k .normal s
  | _, _, .ret, s, k => k .ret (s.keep F.rm)
  | pos, bid, .rangeFunc f ps assign body, s0, k => bif inRoundT rnd s0.objs.get then Option.bind (match (F.hints.find? fun h => Nat.beq h.bid bid : Option Hint) with
      | some hint => (nilRowsT X s0.next 0 hint.accs (s0.base, s0.objs)).bind fun r => some (StT.mk r.1 r.2 (s0.next + hint.accs.length))
      | none => some s0) fun (s : StT S) => (opndT s.base.get f).bind fun fv => (match fv with
    | .fn (.func g) first caps =>
      callH (bid :: path) g (first ++ [.yld s.next] ++ caps) (s.objs.set s.next (some (.loop fid s.base ps.toList assign body bid .normal (bid :: path) pos))) (s.next + 1) fun _ objs next =>
        (match objs.get s.next with
        | some (.loop _ _ _ _ _ _ ex _ _) => (match ex with | .busy => none | _ => k ex { s with objs := objs.set s.next none, next := next })
        | _ => none)
    | _ => none) else none
  | _, _, _, _, _ => none

def resK (X : TEnv S) (base : Nat → Option (TV S)) (h : Nat → Option (TObj S)) (rs : List ResultVar) (k : List (TV S) → Option R) : Option R := match rs with
  | [] => k []
  | .tmp t :: rs => (base t).bind fun v => resK X base h rs fun vs => k (v :: vs)
  | .cell a t :: rs => (X.E.ty t).bind fun ti => (base a).bind fun a => loadK X ti h a fun o => o.val.bind fun v => resK X base h rs fun vs => k (v :: vs)

def packT : List (TV S) → TV S
  | [v] => v
  | vs => .tup vs

def argBaseT (V : Nat) : Nat → List (TV S) → Tr (TV S) → Tr (TV S)
  | _, [], b => b
  | k, v :: vs, b => argBaseT V (k + 1) vs (bif Nat.testBit V k then b.set k (some v) else b)

def setParamsT (V nt : Nat) : List Nat → List (TV S) → Tr (TV S) → Option (Tr (TV S))
  | [], [], b => some b
  | p :: ps, v :: vs, b => bif Nat.blt p nt then setParamsT V nt ps vs (bif Nat.testBit V p then b.set p (some v) else b) else none
  | _, _, _ => none

def isBusy : Ex → Bool
  | .busy => true
  | _ => false

def xK (X : TEnv S) (cs : Specs S R) (ls : Loops S R) : Nat → Bool → CallHT S R
  | 0, _, _, _, _, _, _, _ => none
  | n + 1, false, path, f, args, objs, next, k =>
    (X.E.fn f).bind fun F => bif Nat.ble args.length F.nt then
      codeK X cs ls none f F (xK X cs ls n false) (xK X cs ls n true) (f :: path) [] 0 F.body ⟨argBaseT F.vmask 0 args .leaf, objs, next⟩ fun ex s =>
        match ex with
        | .exit _ | .busy => none
        | _ => resK X s.base.get s.objs.get F.nres fun vs => k (packT vs) s.objs s.next
      else none
  | n + 1, true, path, l, args, objs, next, k => (match objs.get l with
    | some (.loop fid base ps assign body bid .normal pa po) => (X.E.fn fid).bind fun F => (setParamsT F.vmask F.nt ps args base).bind fun b =>
        codeK X cs ls (some l) fid F (xK X cs ls n false) (xK X cs ls n true) (l :: path) (0 :: po) bid assign ⟨b, objs, next⟩ fun ex s => (match ex, s.objs.get l with
        | .normal, some (.loop fid2 base2 ps2 assign2 body2 bid2 .normal pa2 po2) => codeK X cs ls (some l) fid F (xK X cs ls n false) (xK X cs ls n true) (l :: path) (1 :: po) bid body { s with objs := s.objs.set l (some (.loop fid2 base2 ps2 assign2 body2 bid2 .busy pa2 po2)) } fun ex s => (match s.objs.get l with
          | some (.loop fid3 base3 ps3 assign3 body3 bid3 .busy pa3 po3) => bif isBusy ex then none else k (.bool (match ex with | .normal => true | _ => false)) (s.objs.set l (some (.loop fid3 base3 ps3 assign3 body3 bid3 ex pa3 po3))) s.next
          | _ => none)
        | _, _ => none)
    | _ => none)

end ops
end
end Go.Ab
